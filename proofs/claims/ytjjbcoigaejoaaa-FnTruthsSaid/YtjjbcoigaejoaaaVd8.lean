/-
  DERIVED. Several texts of ours in one: VtPg2I, VtRunD, VtApply, VpRun4, VpRun5, VtIntD, VtVF, VpVis, VpVstk, VpTru, VtFind, VcFb, VtRunS, VtPg1S, VtPg2S, VtLnS, VtFmtLn.
-/
import Derived.Test.YtjjbcoigaejoaaaVd0
import Derived.Test.YtjjbcoigaejoaaaVd1
import Derived.Test.YtjjbcoigaejoaaaVd2
import Derived.Test.YtjjbcoigaejoaaaVd3
import Derived.Test.YtjjbcoigaejoaaaVd4
import Derived.Test.YtjjbcoigaejoaaaVd5
import Derived.Test.YtjjbcoigaejoaaaVd6
import Derived.Test.YtjjbcoigaejoaaaVd7
set_option linter.unusedSimpArgs false
set_option linter.unusedVariables false
set_option maxHeartbeats 1000000
set_option maxRecDepth 10000
namespace Go.Proofs.Ytjjbcoigaejoaaa
open Go.Vc
attribute [local irreducible] Go.Vc.WP
attribute [local go_sem] cx0_t cx0_c
attribute [local go_sem] decS_enc decTok_enc decLine_enc oneLine_f line_eta oneTok_f aPk St.fzS addL behind St.runO St.stepO
theorem rowS_ln {L : List ByteArray} {r : List SV} (h : r ∈ L.map encS) : r.length = 1:=by obtain ⟨n,_,rfl⟩ := List.mem_map.1 h; rfl
theorem locGo_succ (P : List Line) {e i : Nat} (h : i < e) (A : List ByteArray) : locGo P (e - i) i A = locGo P (e - (i + 1)) (i + 1) (if kd P i = 1 ∧ nameAt P i ∉ A then A ++ [nameAt P i] else A) := by
 rw [show e - i = (e - (i + 1)) + 1 by omega,locGo]
def kLcl : Ctr := pur aPk (fun x=>[.sl 4 (x.1.map encLine),.v (.int .i64 x.2)]) (fun x=>x.1.length ≤ 1048576 ∧ ∀ y ∈ x.1,shLine y) (fun d _=>.own d) (fun d x=>[(d,.sl 9 1 ((localsOf x.1 x.2).map encS))])
theorem localsOf_neg {P : List Line} {k : Int} (h : endOf P k < 0) : localsOf P k = [] := if_pos (.inl h)
theorem localsOf_kd {P : List Line} {n : Nat} (h : n < P.length) (h3 : ¬ P[n].kind = 0) : localsOf P n = [] := if_pos (.inr (by rw [Int.toNat_natCast,kd_lt h]; exact h3))
theorem localsOf_go {P : List Line} {n e : Nat} (h : n < P.length) (h3 : P[n].kind = 0) (he : endOf P n = (e : Int)) : localsOf P n = locGo P (e - n) n P[n].args := by
 unfold localsOf
 rw [Int.toNat_natCast,kd_lt h,he,Int.toNat_natCast,if_neg (by omega),argsAt_lt h]
section
attribute [local irreducible] shLine
noncomputable def cxLclI := mkX [(82,kBlk),(118,kHasS)] (COk.cons cBlkI (COk.cons cHasS (COk.nil _)))
theorem cxLclI_t : cxLclI.tys = tys := rfl
theorem cxLclI_c : cxLclI.C = [(82,kBlk),(118,kHasS)] := rfl
attribute [local go_sem] cxLclI_t cxLclI_c kBlk kHasS
set_option maxHeartbeats 8000000
theorem cLclI : Cn Try.prog 109 kLcl := by
 refine Cn.pur Try.func109 (by kernel_rfl) rfl fun d x hx=>?_
 obtain ⟨P,k⟩ := x
 obtain ⟨hx,hsh⟩ := hx
 simp only at hx hsh ⊢
 refine Holds.go (c := cxLclI) Try.func109 rfl Try.results109 Try.ntmps109 (by omega) (by simp) rfl ?_
 intro X0 w0
 have lk0 : lk 0 tys = none := rfl
 by_cases hneg : endOf P k < 0
 ·rw [localsOf_neg hneg]
  (repeat' (first|apply zS|apply zB|((first|refine WP.regionO (id := 2) ?_); simp only [go_sem,hneg])|((first|apply zR|apply zC|apply zT|apply zE|apply zK);simp only [go_sem,hneg])|apply And.intro|intro _))
  all_goals first|omega|rfl|exact ⟨_,_,rfl⟩|exact ⟨_,_,_,rfl⟩|skip
 have hin := endOf_opens (P := P) (k := k) (by omega)
 obtain ⟨n,rfl⟩ := Int.eq_ofNat_of_zero_le hin.1
 have hn : n < P.length:=by omega
 obtain ⟨e,he,hE,hne⟩ := endOf_nn (P := P) (k := n) (by omega)
 have hel := hE.lt
 have h1 := rowAt_map encLine P n hn
 have he0 : ¬ (e : Int) < 0:=by omega
 by_cases h3 : P[n].kind = 0
 rotate_left
 ·rw [localsOf_kd hn h3]
  (repeat' (first|apply zS|apply zB|((first|apply zR|apply zC|apply zT|apply zE|apply zK);simp only [go_sem,h1,encLine,h3,he,he0])|apply And.intro|intro _))
  all_goals first|omega|rfl|exact ⟨_,_,rfl⟩|exact ⟨_,_,_,rfl⟩|skip
 rw [localsOf_go hn h3 he]
 have hsn : P[n].args.length ≤ 1048576:=by have := hsh _ (List.getElem_mem hn); unfold shLine at this; exact this.1
 generalize hA0 : P[n].args = A0 at hsn
 rw [encLine,hA0] at h1
 have hnn : (0 : Nat) + A0.length = A0.length:=by omega
 (repeat' (first|apply zS|apply zB|((first|apply zR|apply zC|apply zT|apply zE|apply zK);simp only [go_sem,h1,h3,he,he0])|apply And.intro|intro _))
 all_goals first|omega|exact rowS_ln ‹_›|skip
 generalize hG : locGo P (e - n) n A0 = G
 refine zL (fun s : Nat × List ByteArray=>⟨[(0,.sl 4 (P.map encLine)),(5,.v (.int .i64 e)),(6,.own 21),(7,.v (.int .i64 s.1))],[(21,.sl 9 1 (s.2.map encS))]⟩)
  (fun s=>n ≤ s.1 ∧ s.1 ≤ e ∧ s.2.length ≤ A0.length + s.1 ∧ locGo P (e - s.1) s.1 s.2 = G) (fun s=>e - s.1) (n,A0) ⟨by simp only; omega,by simp only; omega,by simp only; omega,hG⟩ ?_ ?_
 ·(simp only [go_sem] <;> (first|(and_intros <;> rfl)|simp))
 rintro ⟨i,A⟩ ⟨hi0,hi1,hA,hF⟩
 simp only at hi0 hi1 hA hF ⊢
 by_cases hlt : i < e
 ·have hli : (i : Int) < (e : Int):=by omega
  have hiP : i < P.length:=by omega
  have h2 := rowAt_map encLine P i hiP
  rw [encLine] at h2
  have hkd := kd_lt hiP
  have hnm := nameAt_lt hiP
  rw [locGo_succ P hlt,hkd,hnm] at hF
  generalize P[i].kind = kk at h2 hF
  generalize P[i].name = nn at h2 hF
  by_cases h1k : kk = 1
  ·by_cases hm : nn ∈ A
   ·have hmi : (nn ∈ A) = True := eq_true hm
    rw [if_neg (fun q=>q.2 hm)] at hF
    (repeat' (first|apply zS|apply zB|((first|apply zR|apply zC|apply zT|apply zE|apply zK);simp only [go_sem,hli,h2,h1k,hmi])|apply And.intro|intro _))
    all_goals first|omega|exact ⟨(i + 1,A),⟨by simp only; omega,by simp only; omega,by simp only; omega,hF⟩,by simp only; omega,by (first|(and_intros <;> rfl)|simp)⟩|skip
   ·have hmi : (nn ∈ A) = False := eq_false hm
    rw [if_pos ⟨h1k,hm⟩] at hF
    (repeat' (first|apply zS|apply zB|((first|apply zR|apply zC|apply zT|apply zE|apply zK);simp only [go_sem,hli,h2,h1k,hmi])|apply And.intro|intro _))
    all_goals first|omega|exact ⟨(i + 1,A ++ [nn]),⟨by simp only; omega,by simp only; omega,by simp only [List.length_append,List.length_cons,List.length_nil]; omega,hF⟩,by simp only; omega,by simp only [List.map_append,List.map_cons,List.map_nil,encS]; (first|(and_intros <;> rfl)|simp)⟩|skip
  ·rw [if_neg (fun q=>h1k q.1)] at hF
   (repeat' (first|apply zS|apply zB|((first|apply zR|apply zC|apply zT|apply zE|apply zK);simp only [go_sem,hli,h2,h1k])|apply And.intro|intro _))
   all_goals first|omega|exact ⟨(i + 1,A),⟨by simp only; omega,by simp only; omega,by simp only; omega,hF⟩,by simp only; omega,by (first|(and_intros <;> rfl)|simp)⟩|skip
 ·have hge : ¬ (i : Int) < (e : Int):=by omega
  rw [show e - i = 0 by omega,locGo] at hF
  subst hF
  (repeat' (first|apply zS|apply zB|((first|apply zR|apply zC|apply zT|apply zE|apply zK);simp only [go_sem,hge])|apply And.intro|intro _))
  all_goals first|omega|rfl|skip
end
def kKnown : Ctr := pur (fun args=>(decLine (aR args 0),decS (aR args 1),decTok (aR args 2))) (fun x=>[.sl 4 (x.1.map encLine),.sl 1 (x.2.1.map encS),.sl 3 (x.2.2.map encTok)]) (fun x=>x.1.length ≤ 1048576 ∧ x.2.1.length ≤ 1048576 ∧ x.2.2.length ≤ 1048576 ∧ ∀ y ∈ x.1,shLine y)
 (fun _ x=>.v (.bool (knownE x.1 x.2.1 x.2.2))) (fun _ _=>[])
theorem knownE_no {P : List Line} {A : List ByteArray} {E : List Tok} {i : Nat} (h : i < E.length) (hk : knownT P A E[i] = false) : knownE P A E = false := by
 cases hb : knownE P A E with
 |false=>rfl
 |true=>rw [List.all_eq_true.1 hb _ (List.getElem_mem h)] at hk; cases hk
theorem knownE_yes {P : List Line} {A : List ByteArray} {E : List Tok} (h : ∀ i (hi : i < E.length),knownT P A E[i] = true) : knownE P A E = true :=
 List.all_eq_true.2 fun x hx=>by obtain ⟨i,hi,rfl⟩ := List.mem_iff_getElem.1 hx; exact h i hi
theorem knownE_nx {P : List Line} {A : List ByteArray} {E : List Tok} {i : Nat} (h : i < E.length) (hk : knownT P A E[i] = true) (hb : ∀ j (hj : j < E.length),j < i → knownT P A E[j] = true) : ∀ j (hj : j < E.length),j < i + 1 → knownT P A E[j] = true := fun j hj hji=>by
 rcases Nat.lt_or_ge j i with q|q
 ·exact hb j hj q
 ·have : j = i:=by omega
  subst this; exact hk
theorem findFn_form (P : List Line) (s : ByteArray) : findFn P s = -1 ∨ ∃ f : Nat,f < P.length ∧ findFn P s = (f : Int) := by
 rcases Int.lt_or_le (findFn P s) 0 with h|h
 ·left
  rcases firstIdx_bound (isFn s) P with q|q
  ·unfold findFn at h ⊢; omega
  ·exact q
 ·obtain ⟨f,hf,h1,_⟩ := firstIdx_pos (p := isFn s) (L := P) (by unfold findFn at h; omega)
  exact .inr ⟨f,hf,h1⟩
section
attribute [local irreducible] shLine
noncomputable def cxKnI := mkX [(118,kHasS),(83,kFind)] (COk.cons cHasS (COk.cons cFindI (COk.nil _)))
theorem cxKnI_t : cxKnI.tys = tys := rfl
theorem cxKnI_c : cxKnI.C = [(118,kHasS),(83,kFind)] := rfl
attribute [local go_sem] cxKnI_t cxKnI_c kHasS kFind
set_option maxHeartbeats 8000000
theorem cKnownI : Cn Try.prog 110 kKnown := by
 refine Cn.pur Try.func110 (by kernel_rfl) rfl fun d x hx=>?_
 obtain ⟨P,A,E⟩ := x
 obtain ⟨hx,hA,hEl,hsh⟩ := hx
 simp only at hx hA hEl hsh ⊢
 refine Holds.go (c := cxKnI) Try.func110 rfl Try.results110 Try.ntmps110 (by omega) (by simp) rfl ?_
 intro X0 w0
 have lk0 : lk 0 tys = none := rfl
 (repeat' (first|apply zS|apply zB|((first|apply zR|apply zC|apply zT|apply zE|apply zK| refine zD 13 (by decide +kernel) (by kernel_rfl) ?_); simp only [go_sem])|apply And.intro|intro _))
 all_goals first|omega|skip
 refine zL (fun i : Nat=>⟨[(0,.sl 4 (P.map encLine)),(1,.sl 1 (A.map encS)),(10,.sl 3 (E.map encTok)),(11,.v (.int .i64 E.length)),(12,.v (.int .i64 i))],[]⟩)
  (fun i=>i ≤ E.length ∧ ∀ j (hj : j < E.length),j < i → knownT P A E[j] = true) (fun i=>E.length - i) 0 ⟨by omega,fun j hj h=>by omega⟩ ?_ ?_
 ·(simp only [go_sem] <;> (first|(and_intros <;> rfl)|simp))
 rintro i ⟨hi,hb⟩
 by_cases hlt : i < E.length
 ·have hli : (i : Int) < E.length:=by omega
  have h2 := rowAt_map encTok E i hlt
  have hno := knownE_no (P := P) (A := A) hlt
  have hnx := fun q=>knownE_nx (P := P) (A := A) hlt q hb
  generalize E[i] = t at h2 hno hnx
  obtain ⟨tk,tn,ts⟩ := t
  rw [encTok] at h2
  simp only at h2
  by_cases h1 : tk = 1
  ·subst h1
   by_cases hm : ts ∈ A
   ·have hmi : (ts ∈ A) = True := eq_true hm
    have hkt : knownT P A ⟨1,tn,ts⟩ = true:=by simp [knownT,hm]
    have hq := hnx hkt
    (repeat' (first|apply zS|apply zB|((first|apply zR|apply zC|apply zT|apply zE|apply zK| refine zD 13 (by decide +kernel) (by kernel_rfl) ?_); simp only [go_sem,hli,h2,hmi])|apply And.intro|intro _))
    all_goals first|omega|exact ⟨i + 1,⟨by omega,hq⟩,by omega,by (first|(and_intros <;> rfl)|simp)⟩|skip
   ·have hmi : (ts ∈ A) = False := eq_false hm
    rw [hno (by simp [knownT,hm])]
    (repeat' (first|apply zS|apply zB|((first|apply zR|apply zC|apply zT|apply zE|apply zK| refine zD 13 (by decide +kernel) (by kernel_rfl) ?_); simp only [go_sem,hli,h2,hmi])|apply And.intro|intro _))
    all_goals first|omega|rfl|skip
  by_cases h7 : tk = 7
  rotate_left
  ·have hq := hnx (by simp [knownT,h1,h7])
   (repeat' (first|apply zS|apply zB|((first|apply zR|apply zC|apply zT|apply zE|apply zK| refine zD 13 (by decide +kernel) (by kernel_rfl) ?_); simp only [go_sem,hli,h2,h1,h7])|apply And.intro|intro _))
   all_goals first|omega|exact ⟨i + 1,⟨by omega,hq⟩,by omega,by (first|(and_intros <;> rfl)|simp)⟩|skip
  subst h7
  rcases findFn_form P ts with hf|⟨f,hf,hff⟩
  ·rw [hno (by simp [knownT,hf])]
   by_cases hP : 0 < P.length
   ·have h3 := rowAt_map encLine P 0 hP
    rw [encLine] at h3
    (repeat' (first|apply zS|apply zB|((first|apply zR|apply zC|apply zT|apply zE|apply zK| refine zD 13 (by decide +kernel) (by kernel_rfl) ?_); simp only [go_sem,hli,h2,hf,h3])|apply And.intro|intro _))
    all_goals first|omega|rfl|skip
   ·have h3 : Go.Vc.rowAt (P.map encLine) 0 = []:=by unfold Go.Vc.rowAt; rw [List.getElem?_eq_none (by rw [List.length_map]; omega)]; rfl
    (repeat' (first|apply zS|apply zB|((first|apply zR|apply zC|apply zT|apply zE|apply zK| refine zD 13 (by decide +kernel) (by kernel_rfl) ?_); simp only [go_sem,hli,h2,hf,h3])|apply And.intro|intro _))
    all_goals first|omega|rfl|skip
  ·have h3 := rowAt_map encLine P f hf
   rw [encLine] at h3
   have hal := argsAt_lt hf
   have hf0 : ¬ (f : Int) < 0:=by omega
   have hkt : knownT P A ⟨7,tn,ts⟩ = decide ((P[f].args.length : Int) = tn):=by simp [knownT,hff,hal]
   have hsl : P[f].args.length ≤ 1048576:=by have := hsh _ (List.getElem_mem hf); unfold shLine at this; exact this.1
   generalize P[f].args = AA at h3 hkt hsl
   by_cases hc : (AA.length : Int) = tn
   ·have hq := hnx (by rw [hkt]; exact decide_eq_true hc)
    (repeat' (first|apply zS|apply zB|((first|apply zR|apply zC|apply zT|apply zE|apply zK| refine zD 13 (by decide +kernel) (by kernel_rfl) ?_); simp only [go_sem,hli,h2,hff,hf0,h3,hc])|apply And.intro|intro _))
    all_goals first|omega|exact ⟨i + 1,⟨by omega,hq⟩,by omega,by (first|(and_intros <;> rfl)|simp)⟩|skip
   ·rw [hno (by rw [hkt]; exact decide_eq_false hc)]
    (repeat' (first|apply zS|apply zB|((first|apply zR|apply zC|apply zT|apply zE|apply zK| refine zD 13 (by decide +kernel) (by kernel_rfl) ?_); simp only [go_sem,hli,h2,hff,hf0,h3,hc])|apply And.intro|intro _))
    all_goals first|omega|rfl|skip
 ·have hge : ¬ (i : Int) < E.length:=by omega
  rw [knownE_yes fun j hj=>hb j hj (by omega)]
  (repeat' (first|apply zS|apply zB|((first|apply zR|apply zC|apply zT|apply zE|apply zK| refine zD 13 (by decide +kernel) (by kernel_rfl) ?_); simp only [go_sem,hge])|apply And.intro|intro _))
  all_goals first|omega|rfl|skip
end
end Go.Proofs.Ytjjbcoigaejoaaa

namespace Go.Proofs.Ytjjbcoigaejoaaa
open Go.Vc
attribute [local irreducible] Go.Vc.WP
attribute [local go_sem] cx0_t cx0_c
def encVl (l : List Int) : List SV := [.sl 1 (l.map encI)]
def oneVl : List SV → List Int
 | [.sl _ r]=>decI r
 | _=>[]
def decVl (rows : List (List SV)) : List (List Int) := rows.map oneVl
theorem decVl_enc (L : List (List Int)) : decVl (L.map encVl) = L := by
 unfold decVl
 rw [List.map_map]
 have : (oneVl ∘ encVl) = id := funext fun l=>by
  show decI (l.map encI) = l
  exact decI_enc l
 rw [this]; simp
theorem rs_eta (s : RS) : (⟨s.out,s.vis,s.calls⟩ : RS) = s := rfl
end Go.Proofs.Ytjjbcoigaejoaaa

namespace Go.Proofs.Ytjjbcoigaejoaaa
open Go.Vc
attribute [local irreducible] Go.Vc.WP
attribute [local go_sem] cx0_t cx0_c
def wrp (n : Int) : Int := if n % 4294967296 > 2147483647 then n % 4294967296 - 4294967296 else n % 4294967296
theorem wrp_bd (n : Int) : -2147483648 ≤ wrp n ∧ wrp n ≤ 2147483647:=by unfold wrp; split <;> omega
theorem and32 (a : Int) : bitAnd .i64 a 4294967295 = a % 4294967296 := by
 unfold bitAnd
 have h1 : (BitVec.ofInt IntKind.i64.bits a &&& BitVec.ofInt IntKind.i64.bits 4294967295).toNat = (a % 18446744073709551616).toNat % 4294967296 := by
  rw [BitVec.toNat_and,BitVec.toNat_ofInt]
  have h2 : (BitVec.ofInt IntKind.i64.bits 4294967295).toNat = 2 ^ 32 - 1:=by decide
  rw [h2,Nat.and_two_pow_sub_one_eq_mod]
  rfl
 rw [h1,show IntKind.i64.wrap (((a % 18446744073709551616).toNat % 4294967296 : Nat) : Int) = (((a % 18446744073709551616).toNat % 4294967296 : Nat) : Int) from IntWalk.i64_in _ ⟨by omega,by omega⟩]
 omega
theorem wrp_u (n : Int) : IntKind.i32.wrap (IntKind.u32.wrap n) = wrp n := by
 rw [IntKind.wrap_u32,IntKind.wrap_i32]
 unfold wrp
 split <;> omega
def kWrp : Ctr := pur (fun args=>aI args 0) (fun n=>[.v (.int .i64 n)]) (fun _=>True) (fun _ n=>.v (.int .i64 (wrp n))) (fun _ _=>[])
theorem cWrpS : Cn Try.prog 117 kWrp := by
 refine Cn.pur Try.func117 (by kernel_rfl) rfl fun d x hx=>?_
 rename Int=>n
 refine Holds.go (c := cx0) Try.func117 rfl Try.results117 Try.ntmps117 (by omega) (by simp) rfl ?_
 intro X0 w0
 have ha := and32 n
 by_cases h : n % 4294967296 > 2147483647
 ·have e : wrp n = n % 4294967296 - 4294967296:=by unfold wrp; rw [if_pos h]
  rw [e]
  (repeat' (first|apply zS|apply zB|((first|apply zR|apply zC|apply zT|apply zE|apply zK);simp only [go_sem,ha,h])|apply And.intro|intro _))
  all_goals first|omega|skip
 ·have e : wrp n = n % 4294967296:=by unfold wrp; rw [if_neg h]
  rw [e]
  (repeat' (first|apply zS|apply zB|((first|apply zR|apply zC|apply zT|apply zE|apply zK);simp only [go_sem,ha,h])|apply And.intro|intro _))
  all_goals first|omega|skip
theorem cWrpI : Cn Try.prog 121 kWrp := by
 refine Cn.pur Try.func121 (by kernel_rfl) rfl fun d x hx=>?_
 rename Int=>n
 refine Holds.go (c := cx0) Try.func121 rfl Try.results121 Try.ntmps121 (by omega) (by simp) rfl ?_
 intro X0 w0
 have ha := wrp_u n
 have hd := wrp_bd n
 (repeat' (first|apply zS|apply zB|((first|apply zR|apply zC|apply zT|apply zE|apply zK);simp only [go_sem,ha])|apply And.intro|intro _))
 all_goals first|omega|exact ha|skip
def appl (k a b : Int) : Int := if k = 2 then wrp (wrp a + wrp b) else if k = 3 then wrp (wrp a - wrp b) else if k = 4 then wrp (wrp a * wrp b) else if (k = 5 ∧ wrp a < wrp b) ∨ (k = 6 ∧ wrp a = wrp b) then 1 else 0
def kAppl : Ctr := pur (fun args=>(aI args 0,aI args 1,aI args 2)) (fun x=>[.v (.int .i64 x.1),.v (.int .i64 x.2.1),.v (.int .i64 x.2.2)]) (fun _=>True) (fun _ x=>.v (.int .i64 (appl x.1 x.2.1 x.2.2))) (fun _ _=>[])
theorem mul_bd {a b : Int} (h1 : -2147483648 ≤ a ∧ a ≤ 2147483647) (h2 : -2147483648 ≤ b ∧ b ≤ 2147483647) : -9223372036854775808 ≤ a * b ∧ a * b ≤ 9223372036854775807 := by
 have h3 : (a * b).natAbs ≤ 2147483648 * 2147483648 := by
  rw [Int.natAbs_mul]
  exact Nat.mul_le_mul (by omega) (by omega)
 omega
section
noncomputable def cxApS := mkX [(117,kWrp)] (COk.cons cWrpS (COk.nil _))
theorem cxApS_t : cxApS.tys = tys := rfl
theorem cxApS_c : cxApS.C = [(117,kWrp)] := rfl
attribute [local go_sem] cxApS_t cxApS_c kWrp
theorem cApplS : Cn Try.prog 99 kAppl := by
 refine Cn.pur Try.func99 (by kernel_rfl) rfl fun d x hx=>?_
 obtain ⟨k,a,b⟩ := x
 simp only
 unfold appl
 have ba := wrp_bd a
 have bb := wrp_bd b
 have bm := mul_bd ba bb
 refine Holds.go (c := cxApS) Try.func99 rfl Try.results99 Try.ntmps99 (by omega) (by simp) rfl ?_
 intro X0 w0
 generalize hA : wrp a = A at ba bm
 generalize hB : wrp b = B at bb bm
 by_cases h2 : k = 2
 ·subst h2
  (repeat' (first|apply zS|apply zB|((first|apply zR|apply zC|apply zT|apply zE|apply zK);simp only [go_sem,hA,hB])|apply And.intro|intro _))
  all_goals first|omega|rfl|(simp [*]; done)|skip
 by_cases h3 : k = 3
 ·subst h3
  (repeat' (first|apply zS|apply zB|((first|apply zR|apply zC|apply zT|apply zE|apply zK);simp only [go_sem,hA,hB])|apply And.intro|intro _))
  all_goals first|omega|rfl|(simp [*]; done)|skip
 by_cases h4 : k = 4
 ·subst h4
  (repeat' (first|apply zS|apply zB|((first|apply zR|apply zC|apply zT|apply zE|apply zK);simp only [go_sem,hA,hB])|apply And.intro|intro _))
  all_goals first|omega|rfl|(simp [*]; done)|skip
 by_cases h5 : k = 5
 ·subst h5
  by_cases hl : A < B
  ·(repeat' (first|apply zS|apply zB|((first|apply zR|apply zC|apply zT|apply zE|apply zK);simp only [go_sem,hA,hB,hl])|apply And.intro|intro _))
   all_goals first|omega|rfl|(simp [*]; done)|skip
  ·(repeat' (first|apply zS|apply zB|((first|apply zR|apply zC|apply zT|apply zE|apply zK);simp only [go_sem,hA,hB,hl])|apply And.intro|intro _))
   all_goals first|omega|rfl|(simp [*]; done)|skip
 by_cases h6 : k = 6
 ·subst h6
  by_cases hl : A = B
  ·(repeat' (first|apply zS|apply zB|((first|apply zR|apply zC|apply zT|apply zE|apply zK);simp only [go_sem,hA,hB,hl])|apply And.intro|intro _))
   all_goals first|omega|rfl|(simp [*]; done)|skip
  ·(repeat' (first|apply zS|apply zB|((first|apply zR|apply zC|apply zT|apply zE|apply zK);simp only [go_sem,hA,hB,hl])|apply And.intro|intro _))
   all_goals first|omega|rfl|(simp [*]; done)|skip
 (repeat' (first|apply zS|apply zB|((first|apply zR|apply zC|apply zT|apply zE|apply zK);simp only [go_sem,hA,hB,h2,h3,h4,h5,h6])|apply And.intro|intro _))
 all_goals first|omega|rfl|(simp [*]; done)|skip
noncomputable def cxApI := mkX [(121,kWrp)] (COk.cons cWrpI (COk.nil _))
theorem cxApI_t : cxApI.tys = tys := rfl
theorem cxApI_c : cxApI.C = [(121,kWrp)] := rfl
attribute [local go_sem] cxApI_t cxApI_c kWrp
theorem cApplI : Cn Try.prog 113 kAppl := by
 refine Cn.pur Try.func113 (by kernel_rfl) rfl fun d x hx=>?_
 obtain ⟨k,a,b⟩ := x
 simp only
 unfold appl
 have ba := wrp_bd a
 have bb := wrp_bd b
 have bm := mul_bd ba bb
 refine Holds.go (c := cxApI) Try.func113 rfl Try.results113 Try.ntmps113 (by omega) (by simp) rfl ?_
 intro X0 w0
 generalize hA : wrp a = A at ba bm
 generalize hB : wrp b = B at bb bm
 by_cases h2 : k = 2
 ·subst h2
  (repeat' (first|apply zS|apply zB|((first|apply zR|apply zC|apply zT|apply zE|apply zK);simp only [go_sem,hA,hB])|apply And.intro|intro _))
  all_goals first|omega|rfl|(simp [*]; done)|skip
 by_cases h3 : k = 3
 ·subst h3
  (repeat' (first|apply zS|apply zB|((first|apply zR|apply zC|apply zT|apply zE|apply zK);simp only [go_sem,hA,hB])|apply And.intro|intro _))
  all_goals first|omega|rfl|(simp [*]; done)|skip
 by_cases h4 : k = 4
 ·subst h4
  (repeat' (first|apply zS|apply zB|((first|apply zR|apply zC|apply zT|apply zE|apply zK);simp only [go_sem,hA,hB])|apply And.intro|intro _))
  all_goals first|omega|rfl|(simp [*]; done)|skip
 by_cases h5 : k = 5
 ·subst h5
  by_cases hl : A < B
  ·(repeat' (first|apply zS|apply zB|((first|apply zR|apply zC|apply zT|apply zE|apply zK);simp only [go_sem,hA,hB,hl])|apply And.intro|intro _))
   all_goals first|omega|rfl|(simp [*]; done)|skip
  ·(repeat' (first|apply zS|apply zB|((first|apply zR|apply zC|apply zT|apply zE|apply zK);simp only [go_sem,hA,hB,hl])|apply And.intro|intro _))
   all_goals first|omega|rfl|(simp [*]; done)|skip
 by_cases h6 : k = 6
 ·subst h6
  by_cases hl : A = B
  ·(repeat' (first|apply zS|apply zB|((first|apply zR|apply zC|apply zT|apply zE|apply zK);simp only [go_sem,hA,hB,hl])|apply And.intro|intro _))
   all_goals first|omega|rfl|(simp [*]; done)|skip
  ·(repeat' (first|apply zS|apply zB|((first|apply zR|apply zC|apply zT|apply zE|apply zK);simp only [go_sem,hA,hB,hl])|apply And.intro|intro _))
   all_goals first|omega|rfl|(simp [*]; done)|skip
 (repeat' (first|apply zS|apply zB|((first|apply zR|apply zC|apply zT|apply zE|apply zK);simp only [go_sem,hA,hB,h2,h3,h4,h5,h6])|apply And.intro|intro _))
 all_goals first|omega|rfl|(simp [*]; done)|skip
end
end Go.Proofs.Ytjjbcoigaejoaaa

namespace Go.Proofs.Ytjjbcoigaejoaaa
theorem rivt {f : Nat → Int} (hs : ∀ i : Nat,f (i + 1) ≤ f i + 1) {c : Int} (a : Nat) : ∀ n : Nat,f a ≤ c → c < f (a + n) → ∃ k : Nat,a ≤ k ∧ k < a + n ∧ f k = c ∧ ∀ j : Nat,k < j → j ≤ a + n → c < f j
 | 0,h1,h2=>by simp only [Nat.add_zero] at h2; omega
 |n + 1,h1,h2=>by
  have h3 := hs (a + n)
  rw [show a + (n + 1) = a + n + 1 by omega] at h2 ⊢
  by_cases h : f (a + n) ≤ c
  ·exact ⟨a + n,by omega,by omega,by omega,fun j q1 q2=>by rw [show j = a + n + 1 by omega]; exact h2⟩
  ·obtain ⟨k,k1,k2,k3,k4⟩ := rivt hs (c := c) a n h1 (by omega)
   refine ⟨k,k1,by omega,k3,fun j q1 q2=>?_⟩
   by_cases q : j ≤ a + n
   ·exact k4 j q1 q
   ·rw [show j = a + n + 1 by omega]; exact h2
theorem InF.owner {P : List Line} {f E i : Nat} (h : InF P f E i) (h7 : kd P i = 7) : ∃ k : Nat,f < k ∧ k < i ∧ IsEnd P k i ∧ (kd P k = 3 ∨ kd P k = 5) := by
 have hof := opens_of (P := P) (k := f) (.inl h.hf)
 have hlo := h.lo
 have hhi := h.hi
 have h1 := h.hE.inside hof (show f < i + 1 by omega) (by omega)
 have hs : sumTo P (i + 1) = sumTo P i - 1:=by rw [sumTo,h7,delta_end]; omega
 have hf1 : sumTo P (f + 1) = sumTo P f + 1:=by rw [sumTo,delta_open hof]
 obtain ⟨k,k1,k2,k3,k4⟩ := rivt (f := sumTo P) (fun i=>(sumTo_step P i).2) (c := sumTo P (i + 1)) (f + 1) (i - (f + 1)) (by omega) (by rw [show f + 1 + (i - (f + 1)) = i by omega]; omega)
 rw [show f + 1 + (i - (f + 1)) = i by omega] at k2 k4
 have hk1 := k4 (k + 1) (by omega) (by omega)
 have hk2 : sumTo P (k + 1) = sumTo P k + delta (kd P k) := rfl
 rw [hk2,k3] at hk1
 have hd : delta (kd P k) = 1:=by have := delta_bound (kd P k); omega
 have hk : kd P k = 3 ∨ kd P k = 5 := by
  have h0 := h.nf k (by omega) (by omega)
  unfold delta at hd
  split at hd
  ·omega
  ·split at hd <;> omega
 refine ⟨k,by omega,k2,⟨by omega,by have := h.hE.lt; omega,k3.symm,fun e' q1 q2=>?_⟩,hk⟩
 have := k4 (e' + 1) (by omega) (by omega)
 omega
theorem ownE_end {P : List Line} {k e : Nat} (hE : IsEnd P k e) (ho : opensK (kd P k) = true) (hke : k < e) : ownE P e = k := by
 have h := own_end hE ho hke P.length (by have := hE.lt; omega)
 unfold ownE ownL
 rw [List.getD_eq_getElem?_getD,h]; rfl
theorem ownE_else {P : List Line} {k j : Nat} (h : elseOf P k = (j : Int)) : ownE P j = k := by
 obtain ⟨e,p1,p2,p3,_⟩ := elseOf_in h
 have hl := p1.lt
 have h := own_else h (by omega) P.length (by omega)
 unfold ownE ownL
 rw [List.getD_eq_getElem?_getD,h]; rfl
theorem InF.endif {P : List Line} {f E i k : Nat} (h : InF P f E i) (hk3 : kd P k = 3) (hk : IsEnd P k i) (hki : k < i) : ∀ w ∈ encN P f i,endOf P (w : Nat) ≠ (i : Int) := fun w hw he=>by
 obtain ⟨h1,h2⟩ := List.mem_filter.1 hw
 obtain ⟨h3,h4,h5⟩ := inW_iff.1 h2
 have h6 := List.mem_range.1 h1
 obtain ⟨x,x1,x2,x3,x4⟩ := h.ends h3 (by have := h.hi; omega) (.inr h4)
 obtain rfl : x = i:=by omega
 have := x2.own hk (opens_of (.inr (.inr h4))) (opens_of (.inr (.inl hk3))) x3 hki
 rw [this] at h4; omega
theorem Tiles.fn {P : List Line} {k : Nat} (h : Tiles (bodyS P) P k) : ∀ f : Nat,k ≤ f → f < P.length → kd P f = 0 → ∃ E,IsEnd P f E ∧ bodyS P f E := by
 induction h with
 |done=>intro f h1 h2; omega
 | @step k e hk he hb h ih =>
  intro f h1 h2 h0
  by_cases hfk : f = k
  ·subst hfk; exact ⟨e,he,hb⟩
  by_cases hfe : f < e
  ·exact absurd h0 (hb.2 f (by omega) hfe).1
  ·by_cases hq : f = e
   ·subst hq
    have := he.kind (opens_of (.inl hk)) (he.lt' hk)
    omega
   ·exact ih f (by omega) h2 h0
theorem locGo_pre (P : List Line) : ∀ (n i : Nat) (A : List ByteArray),∃ B,locGo P n i A = A ++ B
 | 0,i,A=>⟨[],by simp [locGo]⟩
 |n + 1,i,A=>by
  rw [locGo]
  split
  ·obtain ⟨B,hB⟩ := locGo_pre P n (i + 1) (A ++ [nameAt P i])
   exact ⟨[nameAt P i] ++ B,by rw [hB,List.append_assoc]⟩
  ·exact locGo_pre P n (i + 1) A
theorem locGo_mem (P : List Line) : ∀ (n i : Nat) (A : List ByteArray) (j : Nat),i ≤ j → j < i + n → kd P j = 1 → nameAt P j ∈ locGo P n i A
 | 0,i,A,j,h1,h2,h3=>by omega
 |n + 1,i,A,j,h1,h2,h3=>by
  rw [locGo]
  by_cases hj : j = i
  ·subst hj
   by_cases hm : nameAt P j ∈ A
   ·rw [if_neg (fun q=>q.2 hm)]
    obtain ⟨B,hB⟩ := locGo_pre P n (j + 1) A
    rw [hB]; exact List.mem_append_left _ hm
   ·rw [if_pos ⟨h3,hm⟩]
    obtain ⟨B,hB⟩ := locGo_pre P n (j + 1) (A ++ [nameAt P j])
    rw [hB]; simp
  ·exact locGo_mem P n (i + 1) _ j (by omega) (by omega) h3
structure FnAt (P : List Line) (f E : Nat) : Prop where
 hf : kd P f = 0
 hE : IsEnd P f E
 lt : f < E
 eo : endOf P f = (E : Int)
 few : (localsOf P f).length ≤ 8
 inF : ∀ i : Nat,f < i → i < E → InF P f E i
 els : ∀ i : Nat,f < i → i < E → kd P i = 4 → ∃ k e : Nat,f < k ∧ k < i ∧ elseOf P k = (i : Int) ∧ kd P k = 3 ∧ IsEnd P k e ∧ endOf P k = (e : Int) ∧ i < e ∧ e < E
 known : ∀ i : Nat,f < i → i < E → knownE P (localsOf P f) (exprAt P i) = true
 names : ∀ i : Nat,f < i → i < E → kd P i = 1 → nameAt P i ∈ localsOf P f
 args : ∃ B,localsOf P f = argsAt P f ++ B
 kinds : ∀ i : Nat,f < i → i < E → 1 ≤ kd P i ∧ kd P i ≤ 7
 vld : ∀ i : Nat,f < i → i < E → kd P i ≠ 4 → kd P i ≠ 7 → 0 ≤ exprEnd (exprAt P i) 0
 endk : kd P E = 7
theorem ProgS.fn {P : List Line} (h : ProgS P) {f : Nat} (hl : f < P.length) (hf : kd P f = 0) : ∃ E,FnAt P f E := by
 obtain ⟨E,hE,hb⟩ := h.tiles.fn f (by omega) hl hf
 have hof := opens_of (P := P) (k := f) (.inl hf)
 have hfE := hE.lt' hf
 have heo := endOf_of hof hE
 have hlc : localsOf P f = locGo P (E - f) f (argsAt P f) := by
  unfold localsOf
  rw [heo,Int.toNat_natCast,if_neg (by omega),Int.toNat_natCast]
 have hin : ∀ i : Nat,f < i → i < E → InF P f E i := fun i h1 h2=>⟨hf,hE,fun w q1 q2=>(hb.2 w q1 q2).1,h1,h2⟩
 have hkk : ∀ i : Nat,f < i → i < E → 1 ≤ kd P i ∧ kd P i ≤ 7 := fun i h1 h2=>by
  have hi : i < P.length:=by have := hE.lt; omega
  have h3 := (hb.2 i h1 h2).1
  have h4 := (h.lines _ (List.getElem_mem hi)).kind
  rw [kd_lt hi] at h3 ⊢
  omega
 refine ⟨E,hf,hE,hfE,heo,hb.1,hin,fun i h1 h2 h4=>?_,fun i h1 h2=>(hb.2 i h1 h2).2.2.2,fun i h1 h2 h3=>?_,?_,hkk,fun i h1 h2 h4 h7=>?_,hE.kind hof hfE⟩
 ·obtain ⟨k,k1,k2,k3⟩ := (hb.2 i h1 h2).2.1 h4
  obtain ⟨e,p1,p2,p3,p4,p5,p6,p7⟩ := elseOf_in k3
  have hkf : k ≠ f := fun q=>by rw [q] at p5; omega
  obtain ⟨x,x1,x2,x3,x4⟩ := (hin k (by omega) (by omega)).ends (show f < k by omega) (by omega) (.inl p5)
  exact ⟨k,e,by omega,k2,k3,p5,p1,p6,p3,by omega⟩
 ·rw [hlc]; exact locGo_mem P (E - f) f _ i (by omega) (by omega) h3
 ·rw [hlc]; exact locGo_pre P _ _ _
 ·have hi : i < P.length:=by have := hE.lt; omega
  have h3 := (h.lines _ (List.getElem_mem hi))
  have h5 := hkk i h1 h2
  have h8 := (hb.2 i h1 h2).1
  rw [kd_lt hi] at h4 h5 h7 h8
  have := (exprOk_iff.1 (h3.expr (hasEx_iff.2 (by omega)))).2.2
  rw [exprAt_lt hi,this]
  omega
end Go.Proofs.Ytjjbcoigaejoaaa

namespace Go.Proofs.Ytjjbcoigaejoaaa
theorem known_call {P : List Line} {A : List ByteArray} {T : List Tok} (h : knownE P A T = true) {t : Tok} (ht : t ∈ T) (hk : t.kind = 7) : ∃ f : Nat,f < P.length ∧ findFn P t.name = (f : Int) ∧ kd P f = 0 := by
 have hkn := List.all_eq_true.1 h t ht
 unfold knownT at hkn
 simp only [hk,if_true,Bool.and_eq_true,decide_eq_true_eq] at hkn
 obtain ⟨k,hkl,h1,h2⟩ := firstIdx_pos (p := isFn t.name) (L := P) (by have := hkn.2.1; unfold findFn at this; omega)
 unfold isFn at h2
 simp only [Bool.and_eq_true,decide_eq_true_eq] at h2
 exact ⟨k,hkl,h1,by rw [kd_lt hkl]; exact h2.1⟩
section
variable {ap : Int → Int → Int → Int} {P : List Line} {lim : Nat}
theorem args_total {T : List Tok} {k : Nat} (hT : exprAt P k = T) {c a e : Nat} (env : ByteArray → Int) (ih : ∀ p,a < p → p < T.length → 0 ≤ exprEnd T p → ∀ s : RS,s.calls.length = c → ∃ n z,evalG ap P lim n k env p s = some z) :
  ∀ (j p : Nat) (A : List Int) (s : RS),Vld T j p e → a < p → s.calls.length = c → ∃ n q,opsG ap P lim n k env j p A s = some q
 | 0,p,A,s,hV,hp,hc=>⟨1,_,by rw [opsG]⟩
 |j + 1,p,A,s,hV,hp,hc=>by
  obtain ⟨h1,h2,h3⟩ := hV.step
  obtain ⟨n,z,hz⟩ := ih p hp h1 h2 s hc
  cases z with
  |stop x s' q=>exact ⟨n + 1,.stop x s' q,by rw [opsG,hz]⟩
  |ok v s' =>
   have hg := (grows n).1 _ _ _ _ _ _ hz
   obtain ⟨m,q,hq⟩ := args_total hT env ih j (nxt T p) (A ++ [v]) s' h3 (by have := nxt_gt T p; omega) (by rw [hg.2]; exact hc)
   refine ⟨n + m + 1,q,?_⟩
   rw [opsG,evalG_up (show n ≤ n + m by omega) hz,hT]
   exact opsG_up (by omega) hq
theorem eval_total {k c : Nat} (hk : ∀ t ∈ exprAt P k,t.kind = 7 → ∃ f : Nat,f < P.length ∧ findFn P t.name = (f : Int) ∧ kd P f = 0) (env : ByteArray → Int)
  (hD : c < 6 → ∀ f : Nat,f < P.length → kd P f = 0 → ∀ (env : ByteArray → Int) (s : RS),s.calls.length = c + 1 → ∃ n z,bodyG' ap P lim n f env (f + 1) s = some z) :
  ∀ (m a : Nat),(exprAt P k).length - a ≤ m → 0 ≤ exprEnd (exprAt P k) a → ∀ s : RS,s.calls.length = c → ∃ n z,evalG ap P lim n k env a s = some z := by
 intro m
 induction m with
 |zero =>
  intro a hm hv
  obtain ⟨t,ht,hat,_⟩ := vld_args hv
  omega
 |succ m ih =>
  intro a hm hv s hc
  obtain ⟨t,ht,hat,htok,hV⟩ := vld_args hv
  obtain ⟨n,q,hq⟩ := args_total (ap := ap) (P := P) (lim := lim) (k := k) rfl (a := a) (c := c) env (fun p hp hpl he s hs=>ih p (by omega) he s hs) (arN t) (a + 1) [] s hV (by omega) hc
  cases q with
  |stop x s' q=>exact ⟨n + 1,.stop x s' q,by rw [evalG,ht]; simp only [hq]⟩
  |ok A s' =>
   have hg := ((grows n).2.1 _ _ _ _ _ _ _ _ hq).1
   by_cases k0 : t.kind = 0
   ·exact ⟨n + 1,_,by rw [evalG,ht]; simp only [hq]; rw [if_pos k0]⟩
   by_cases k1 : t.kind = 1
   ·exact ⟨n + 1,_,by rw [evalG,ht]; simp only [hq]; rw [if_neg k0,if_pos k1]⟩
   by_cases k7 : t.kind = 7
   ·by_cases h6 : 6 ≤ s'.calls.length
    ·exact ⟨n + 1,_,by rw [evalG,ht]; simp only [hq]; rw [if_neg k0,if_neg k1,if_pos k7,if_pos h6]⟩
    ·have hcs : s'.calls.length = c:=by rw [hg.2]; exact hc
     obtain ⟨f,f1,f2,f3⟩ := hk t (List.mem_of_getElem? ht) k7
     obtain ⟨n2,z,hz⟩ := hD (by omega) f f1 f3 (envA (argsAt P f) A) (pushC s' k) (by simp [pushC]; omega)
     have hq' := opsG_up (show n ≤ n + n2 by omega) hq
     have hz' := bodyG_up (show n2 ≤ n + n2 by omega) hz
     cases z with
     |stop x s2 y=>exact ⟨n + n2 + 1,_,by rw [evalG,ht]; simp only [hq']; rw [if_neg k0,if_neg k1,if_pos k7,if_neg h6,f2,Int.toNat_natCast,hz']⟩
     |ok v s2=>exact ⟨n + n2 + 1,_,by rw [evalG,ht]; simp only [hq']; rw [if_neg k0,if_neg k1,if_pos k7,if_neg h6,f2,Int.toNat_natCast,hz']⟩
   ·exact ⟨n + 1,_,by rw [evalG,ht]; simp only [hq]; rw [if_neg k0,if_neg k1,if_neg k7]⟩
theorem skipOf_in {f E i : Nat} (hF : FnAt P f E) (h1 : f < i) (h2 : i < E) (hk : kd P i = 3 ∨ kd P i = 5) : f < skipOf P i + 1 ∧ skipOf P i + 1 ≤ E := by
 obtain ⟨e,e1,e2,e3,e4⟩ := (hF.inF i h1 h2).ends h1 h2 hk
 unfold skipOf
 split
 ·rename_i h
  rcases elseOf_form P i with q|⟨j,e',a,b,c,d,g,x⟩
  ·omega
  ·have := e2.inj x
   omega
 ·omega
theorem body_total {f E c : Nat} (hF : FnAt P f E) (hev : ∀ i : Nat,f < i → i < E → kd P i ≠ 4 → kd P i ≠ 7 → ∀ (env : ByteArray → Int) (s : RS),s.calls.length = c → ∃ n z,evalG ap P lim n i env 0 s = some z) :
  ∀ (M : Nat) (env : ByteArray → Int) (i : Nat) (s : RS),f < i → i ≤ E → s.calls.length = c → lim - s.vis.length < M → ∃ n z,bodyG' ap P lim n f env i s = some z := by
 intro M
 induction M with
 |zero=>intro env i s h1 h2 h3 h4; omega
 |succ M ih =>
  have hvis : ∀ (env : ByteArray → Int) (i : Nat) (s : RS),f < i → i < E → kd P i ≠ 4 → kd P i ≠ 7 → s.calls.length = c → lim - s.vis.length < M + 1 → ∃ n z,bodyG' ap P lim n f env i s = some z := fun env i s h1 h2 k4 k7 hc hM=>by
   by_cases hl : lim ≤ s.vis.length
   ·exact ⟨1,_,by rw [bodyG',if_neg k4,if_neg k7,if_pos hl]⟩
   obtain ⟨n,z,hz⟩ := hev i h1 h2 k4 k7 env (visit1 s i) hc
   cases z with
   |stop x s' q=>exact ⟨n + 1,_,by rw [bodyG',if_neg k4,if_neg k7,if_neg hl,hz]⟩
   |ok v s' =>
    have hg := (grows n).1 _ _ _ _ _ _ hz
    have hg1 : s.vis.length + 1 ≤ s'.vis.length:=by have := hg.1; simp [visit1] at this; omega
    have hgc : s'.calls.length = c:=by rw [hg.2]; exact hc
    have hm : lim - s'.vis.length < M:=by omega
    have hup : ∀ {env' : ByteArray → Int} {j : Nat} {s2 : RS} (w : ∃ n z,bodyG' ap P lim n f env' j s2 = some z),∃ m,n ≤ m ∧ ∃ z,bodyG' ap P lim m f env' j s2 = some z := fun ⟨n2,z2,h⟩=>⟨n + n2,by omega,z2,bodyG_up (by omega) h⟩
    by_cases k1 : kd P i = 1
    ·obtain ⟨m,hm1,z,hz2⟩ := hup (ih (upd env (nameAt P i) v) (i + 1) s' (by omega) (by omega) hgc hm)
     exact ⟨m + 1,z,by rw [bodyG',if_neg k4,if_neg k7,if_neg hl,evalG_up hm1 hz]; simp only; rw [if_pos k1]; exact hz2⟩
    by_cases k2 : kd P i = 2
    ·obtain ⟨m,hm1,z,hz2⟩ := hup (ih env (i + 1) (out1 s' v) (by omega) (by omega) hgc hm)
     exact ⟨m + 1,z,by rw [bodyG',if_neg k4,if_neg k7,if_neg hl,evalG_up hm1 hz]; simp only; rw [if_neg k1,if_pos k2]; exact hz2⟩
    by_cases k6 : kd P i = 6
    ·exact ⟨n + 1,_,by rw [bodyG',if_neg k4,if_neg k7,if_neg hl,hz]; simp only; rw [if_neg k1,if_neg k2,if_pos k6]⟩
    have hkk := hF.kinds i h1 h2
    by_cases v0 : v = 0
    ·obtain ⟨q1,q2⟩ := skipOf_in hF h1 h2 (by omega)
     obtain ⟨m,hm1,z,hz2⟩ := hup (ih env (skipOf P i + 1) s' q1 q2 hgc hm)
     exact ⟨m + 1,z,by rw [bodyG',if_neg k4,if_neg k7,if_neg hl,evalG_up hm1 hz]; simp only; rw [if_neg k1,if_neg k2,if_neg k6,if_pos v0]; exact hz2⟩
    ·obtain ⟨m,hm1,z,hz2⟩ := hup (ih env (i + 1) s' (by omega) (by omega) hgc hm)
     exact ⟨m + 1,z,by rw [bodyG',if_neg k4,if_neg k7,if_neg hl,evalG_up hm1 hz]; simp only; rw [if_neg k1,if_neg k2,if_neg k6,if_neg v0]; exact hz2⟩
  intro env
  suffices h : ∀ (d i : Nat) (s : RS),E - i ≤ d → f < i → i ≤ E → s.calls.length = c → lim - s.vis.length < M + 1 → ∃ n z,bodyG' ap P lim n f env i s = some z by
   intro i s h1 h2 h3 h4; exact h _ i s (Nat.le_refl _) h1 h2 h3 h4
  have hend : ∀ s : RS,∃ n z,bodyG' ap P lim n f env E s = some z := fun s =>
   ⟨1,_,by rw [bodyG',if_neg (by rw [hF.endk]; omega),if_pos hF.endk,ownE_end hF.hE (opens_of (.inl hF.hf)) hF.lt,if_pos hF.hf]⟩
  intro d
  induction d with
  |zero =>
   intro i s hd h1 h2 hc hM
   obtain rfl : i = E:=by omega
   exact hend s
  |succ d ihd =>
   intro i s hd h1 h2 hc hM
   by_cases hiE : i = E
   ·subst hiE; exact hend s
   by_cases k4 : kd P i = 4
   ·obtain ⟨k,e,p1,p2,p3,p4,p5,p6,p7,p8⟩ := hF.els i h1 (by omega) k4
    obtain ⟨n,z,hz⟩ := ihd (e + 1) s (by omega) (by omega) (by omega) hc hM
    exact ⟨n + 1,z,by rw [bodyG',if_pos k4,ownE_else p3,p6,Int.toNat_natCast]; exact hz⟩
   by_cases k7 : kd P i = 7
   ·obtain ⟨k,p1,p2,p3,p4⟩ := (hF.inF i h1 (by omega)).owner k7
    have hok := opens_of (P := P) (k := k) (.inr p4)
    by_cases k5 : kd P k = 5
    ·obtain ⟨n,z,hz⟩ := hvis env k s p1 (by omega) (by omega) (by omega) hc hM
     exact ⟨n + 1,z,by rw [bodyG',if_neg k4,if_pos k7,ownE_end p3 hok p2,if_neg (by omega),if_pos k5]; exact hz⟩
    ·obtain ⟨n,z,hz⟩ := ihd (i + 1) s (by omega) (by omega) (by omega) hc hM
     exact ⟨n + 1,z,by rw [bodyG',if_neg k4,if_pos k7,ownE_end p3 hok p2,if_neg (by omega),if_neg k5]; exact hz⟩
   ·exact hvis env i s h1 (by omega) k4 k7 hc hM
theorem call_total (h : ProgS P) : ∀ (d c : Nat),c + d = 6 → ∀ f : Nat,f < P.length → kd P f = 0 → ∀ (env : ByteArray → Int) (s : RS),s.calls.length = c → ∃ n z,bodyG' ap P lim n f env (f + 1) s = some z := by
 intro d
 induction d with
 |zero =>
  intro c hcd f hl hf env s hc
  obtain ⟨E,hF⟩ := h.fn hl hf
  refine body_total hF (fun i h1 h2 k4 k7 env s hs=>?_) _ env (f + 1) s (by omega) (by have := hF.lt; omega) hc (Nat.lt_succ_self _)
  exact eval_total (fun t ht hk=>known_call (hF.known i h1 h2) ht hk) env (fun q=>by omega) _ 0 (Nat.le_refl _) (hF.vld i h1 h2 k4 k7) s hs
 |succ d ih =>
  intro c hcd f hl hf env s hc
  obtain ⟨E,hF⟩ := h.fn hl hf
  refine body_total hF (fun i h1 h2 k4 k7 env s hs=>?_) _ env (f + 1) s (by omega) (by have := hF.lt; omega) hc (Nat.lt_succ_self _)
  exact eval_total (fun t ht hk=>known_call (hF.known i h1 h2) ht hk) env (fun q g g1 g2 env s hs=>ih (c + 1) (by omega) g g1 g2 env s hs) _ 0 (Nat.le_refl _) (hF.vld i h1 h2 k4 k7) s hs
end
end Go.Proofs.Ytjjbcoigaejoaaa

namespace Go.Proofs.Ytjjbcoigaejoaaa
open Go.Vc
attribute [local irreducible] Go.Vc.WP
attribute [local go_sem] cx0_t cx0_c
def zTop (P : List Line) (lim n : Nat) : Option Rz := bodyG' appl P lim n 0 (envA (argsAt P 0) []) 1 ⟨[],[],[]⟩
def RunsT (P : List Line) (lim : Nat) : Prop := ∃ n z,zTop P lim n = some z
open Classical in
noncomputable def runZ (P : List Line) (lim : Nat) : Rz := if h : RunsT P lim then h.choose_spec.choose else .ok 0 ⟨[],[],[]⟩
theorem runZ_of {P : List Line} {lim n : Nat} {z : Rz} (h : zTop P lim n = some z) : runZ P lim = z := by
 have hr : RunsT P lim := ⟨n,z,h⟩
 unfold runZ
 rw [dif_pos hr]
 have h2 := hr.choose_spec.choose_spec
 unfold zTop at h h2
 have a1 := bodyG_up (show n ≤ n + hr.choose by omega) h
 have a2 := bodyG_up (show hr.choose ≤ n + hr.choose by omega) h2
 rw [a1] at a2
 exact (Option.some.inj a2).symm
def ofZ : Rz → List Int × List (List Int) × Int × Int
 | .ok v s=>(s.out,s.vis,v,0)
 | .stop c s _=>(s.out,s.vis,0,c)
theorem runs {P : List Line} (h : progOk P = true) (lim : Nat) : RunsT P lim := by
 have hP := progOk_iff.1 h
 exact call_total hP 6 0 (by omega) 0 (List.length_pos_iff.2 hP.some) hP.main.1 _ ⟨[],[],[]⟩ rfl
noncomputable def interp (P : List Line) (l : Int) : List Int × List (List Int) × Int × Int :=
 if progOk P = true ∧ 0 ≤ l ∧ l ≤ 1000 then ofZ (runZ P l.toNat) else ([],[],0,3)
noncomputable def kInt : Ctr := pur (fun args=>(decLine (aR args 0),aI args 1)) (fun x=>[.sl 4 (x.1.map encLine),.v (.int .i64 x.2)])
 (fun x=>x.1.length ≤ 1048576 ∧ ∀ y ∈ x.1,smLine y)
 (fun d x=>.agg [.own d,.own (d + 1000),.v (.int .i64 (interp x.1 x.2).2.2.1),.v (.int .i64 (interp x.1 x.2).2.2.2)])
 (fun d x=>[(d,.sl 3 1 ((interp x.1 x.2).1.map encI)),(d + 1000,.dp 36 1 ((interp x.1 x.2).2.1.map encVl))])
end Go.Proofs.Ytjjbcoigaejoaaa

namespace Go.Proofs.Ytjjbcoigaejoaaa
open Go.Vc
attribute [local irreducible] Go.Vc.WP
attribute [local go_sem] cx0_t cx0_c
attribute [local go_sem] decS_enc decTok_enc decLine_enc oneLine_f line_eta decI_enc decFrame_enc
def folN (L : List Line) : Nat → ByteArray
 | 0=>⟨#[]⟩
 |n + 1=>match L[n]? with
  |some x=>if x.kind = 0 then x.name else folN L n
  |none=>folN L n
def fol (L : List Line) (k : Int) : ByteArray := if 0 ≤ k ∧ k < L.length then folN L (k.toNat + 1) else ⟨#[]⟩
theorem folN_succ (L : List Line) (n : Nat) (h : n < L.length) : folN L (n + 1) = if L[n].kind = 0 then L[n].name else folN L n := by
 rw [folN,List.getElem?_eq_getElem h]
def kFol : Ctr := pur (fun args=>(decLine (aR args 0),aI args 1)) (fun x=>[.sl 4 (x.1.map encLine),.v (.int .i64 x.2)]) (fun x=>x.1.length ≤ 1048576) (fun _ x=>.v (.string (fol x.1 x.2))) (fun _ _=>[])
section
noncomputable def cxFol := mkX [(35,k60)] (COk.cons c60 (COk.nil _))
theorem cxFol_t : cxFol.tys = tys := rfl
theorem cxFol_c : cxFol.C = [(35,k60)] := rfl
attribute [local go_sem] cxFol_t cxFol_c k60
theorem cFolI : Cn Try.prog 37 kFol := by
 refine Cn.pur Try.func37 (by kernel_rfl) rfl fun d x hx=>?_
 obtain ⟨L,k⟩ := x
 simp only at hx ⊢
 refine Holds.go (c := cxFol) Try.func37 rfl Try.results37 Try.ntmps37 (by omega) (by simp) rfl ?_
 intro X0 w0
 (repeat' (first|apply zS|apply zB|((first|apply zR|apply zC|apply zT|apply zE|apply zK);simp only [go_sem])|apply And.intro|intro _))
 all_goals first|omega|skip
 ·rename_i h
  have e : fol L k = ⟨#[]⟩:=by unfold fol; rw [if_neg (by omega)]
  rw [e]
 rename_i h
 have e : fol L k = folN L (k.toNat + 1):=by unfold fol; rw [if_pos (by omega)]
 rw [e]
 refine zL (fun j : Nat=>⟨[(0,.sl 4 (L.map encLine)),(1,.v (.int .i64 ((j : Int) - 1)))],[]⟩) (fun j=>j ≤ L.length ∧ folN L (k.toNat + 1) = folN L j) (fun j=>j) (k.toNat + 1) ⟨by omega,rfl⟩ ?_ ?_
 ·rw [show ((k.toNat + 1 : Nat) : Int) - 1 = k by omega]; (simp only [go_sem] <;> (first|(and_intros <;> rfl)|simp))
 rintro j ⟨hj,he⟩
 match j with
 | 0 =>
  (repeat' (first|apply zS|apply zB|((first|apply zR|apply zC|apply zT|apply zE|apply zK);simp only [go_sem])|apply And.intro|intro _))
  all_goals first|omega|(rw [he]; rfl)|skip
 |j + 1 =>
  have h1 := rowAt_map encLine L j (by omega)
  have h2 := folN_succ L j (by omega)
  rw [he,show ((j + 1 : Nat) : Int) - 1 = (j : Int) by omega]
  generalize L[j] = y at h1 h2
  obtain ⟨yk,yn,yA,yE⟩ := y
  rw [encLine] at h1
  simp only at h1 h2
  by_cases hy : yk = 0
  ·rw [if_pos hy] at h2
   rw [h2]
   (repeat' (first|apply zS|apply zB|((first|apply zR|apply zC|apply zT|apply zE|apply zK);simp only [go_sem,h1,hy])|apply And.intro|intro _))
   all_goals first|omega|skip
  ·rw [if_neg hy] at h2
   rw [h2]
   (repeat' (first|apply zS|apply zB|((first|apply zR|apply zC|apply zT|apply zE|apply zK);simp only [go_sem,h1,hy])|apply And.intro|intro _))
   all_goals first|omega|exact ⟨j,⟨by omega,rfl⟩,by omega,rfl⟩|skip
end
section
end
def visitF (L : List Line) (V : List Int) : List Frame := V.map fun v=>⟨fol L v,v⟩
def vfr (L : List Line) (V : List Int) : List Frame := if ∃ v ∈ V,fol L v = ⟨#[]⟩ then [] else visitF L V
theorem vfr_len (L : List Line) (V : List Int) : (vfr L V).length ≤ V.length := by
 unfold vfr
 split <;> simp [visitF]
theorem visitF_succ (L : List Line) (V : List Int) (k : Nat) (h : k < V.length) : (visitF L (V.take (k + 1))).map encFrame = (visitF L (V.take k)).map encFrame ++ [[.v (.string (fol L V[k])),.v (.int .i64 V[k])]] := by
 unfold visitF
 rw [List.take_succ_eq_append_getElem h,List.map_append,List.map_append]
 rfl
def kVF : Ctr := pur (fun args=>(decLine (aR args 0),decI (aR args 1))) (fun x=>[.sl 4 (x.1.map encLine),.sl 1 (x.2.map encI)]) (fun x=>x.1.length ≤ 1048576 ∧ x.2.length ≤ 1048576) (fun d _=>.own d) (fun d x=>[(d,.sl 52 2 ((vfr x.1 x.2).map encFrame))])
section
noncomputable def cxVfI := mkX [(37,kFol)] (COk.cons cFolI (COk.nil _))
theorem cxVfI_t : cxVfI.tys = tys := rfl
theorem cxVfI_c : cxVfI.C = [(37,kFol)] := rfl
attribute [local go_sem] cxVfI_t cxVfI_c kFol
theorem cVFI : Cn Try.prog 18 kVF := by
 refine Cn.pur Try.func18 (by kernel_rfl) rfl fun d x hx=>?_
 obtain ⟨L,V⟩ := x
 obtain ⟨hL,hV⟩ := hx
 simp only at hL hV ⊢
 refine Holds.go (c := cxVfI) Try.func18 rfl Try.results18 Try.ntmps18 (by omega) (by simp) rfl ?_
 intro X0 w0
 (repeat' (first|apply zS|apply zB|((first|apply zR|apply zC|apply zT|apply zE|apply zK);simp only [go_sem])|apply And.intro|intro _))
 all_goals first|omega|skip
 refine zL (fun k : Nat=>⟨[(0,.sl 4 (L.map encLine)),(5,.own 9),(10,.sl 1 (V.map encI)),(11,.v (.int .i64 V.length)),(12,.v (.int .i64 k))],[(9,.sl 52 2 ((visitF L (V.take k)).map encFrame))]⟩) (fun k=>k ≤ V.length ∧ ∀ v ∈ V.take k,fol L v ≠ ⟨#[]⟩) (fun k=>V.length - k) 0 (by simp) ?_ ?_
 ·(simp only [go_sem,visitF] <;> (first|(and_intros <;> rfl)|simp))
 rintro k ⟨hk,hall⟩
 by_cases hlt : k < V.length
 ·have h1 := rowAt_map encI V k hlt
  have h2 := visitF_succ L V k hlt
  have h3 : (visitF L (V.take k)).length = k:=by simp [visitF]; omega
  have hmem := List.getElem_mem hlt
  have htk : V.take (k + 1) = V.take k ++ [V[k]] := List.take_succ_eq_append_getElem hlt
  generalize V[k] = v at h1 h2 hmem htk
  by_cases hf : fol L v = ⟨#[]⟩
  ·have e : vfr L V = []:=by unfold vfr; rw [if_pos ⟨v,hmem,hf⟩]
   rw [e]
   (repeat' (first|apply zS|apply zB|((first|apply zR|apply zC|apply zT|apply zE|apply zK);simp only [go_sem,h1,encI,hf])|apply And.intro|intro _))
   all_goals first|omega|exact ⟨_,_,rfl⟩|skip
  ·(repeat' (first|apply zS|apply zB|((first|apply zR|apply zC|apply zT|apply zE|apply zK);simp only [go_sem,h1,encI,hf,h3])|apply And.intro|intro _))
   all_goals first|omega|skip
   refine ⟨k + 1,⟨by omega,fun q hq=>?_⟩,by omega,by rw [h2]; exact ⟨rfl,rfl⟩⟩
   rw [htk,List.mem_append,List.mem_singleton] at hq
   rcases hq with hq|rfl
   ·exact hall q hq
   ·exact hf
 ·have e : vfr L V = visitF L (V.take k) := by
   rw [show k = V.length by omega,List.take_length] at hall ⊢
   unfold vfr
   rw [if_neg (by rintro ⟨v,hv,hf⟩; exact hall v hv hf)]
  rw [e]
  (repeat' (first|apply zS|apply zB|((first|apply zR|apply zC|apply zT|apply zE|apply zK);simp only [go_sem])|apply And.intro|intro _))
  all_goals first|omega|skip
end
section
attribute [local go_sem] kFol
end
end Go.Proofs.Ytjjbcoigaejoaaa

namespace Go.Proofs.Ytjjbcoigaejoaaa
def mainB : ByteArray := bts [109,97,105,110]
structure GV (P : List Line) (v : List Int) : Prop where
 len : v.length ≤ 7
 some : v ≠ []
 fl : ∀ k ∈ v,fol P k ≠ ⟨#[]⟩
 mn : fol P (v.headD 0) = mainB
theorem folN_fn {P : List Line} {f E : Nat} (hF : FnAt P f E) : ∀ i : Nat,f ≤ i → i < E → folN P (i + 1) = nameAt P f
 |i,h1,h2=>by
  have hEl := hF.hE.lt
  have hil : i < P.length:=by omega
  rw [folN_succ P i hil,← kd_lt hil]
  by_cases hi : i = f
  ·subst hi
   rw [if_pos hF.hf,nameAt_lt hil]
  ·have h0 := (hF.inF i (by omega) h2).nf i (by omega) h2
   rw [if_neg h0]
   match i,hi,h1,h2 with
   |j + 1,hi,h1,h2=>exact folN_fn hF j (by omega) (by omega)
   | 0,hi,h1,h2=>omega
theorem fol_fn {P : List Line} {f E : Nat} (hF : FnAt P f E) {i : Nat} (h1 : f ≤ i) (h2 : i < E) : fol P (i : Int) = nameAt P f := by
 have hEl := hF.hE.lt
 unfold fol
 rw [if_pos ⟨by omega,by omega⟩,Int.toNat_natCast]
 exact folN_fn hF i h1 h2
theorem fn_name {P : List Line} (hP : ProgS P) {f : Nat} (hl : f < P.length) (h0 : kd P f = 0) : nameAt P f ≠ ⟨#[]⟩ := by
 rw [nameAt_lt hl]
 refine nameOk_ne ((hP.lines _ (List.getElem_mem hl)).name (.inl ?_))
 rw [← kd_lt hl]; exact h0
def VisOk (P : List Line) (s : RS) : Prop := ∀ v ∈ s.vis,GV P v
def CO (P : List Line) (f E : Nat) (C : List Int) : Prop := ∀ i : Nat,f < i → i < E → GV P (C ++ [(i : Int)])
def stOf : Rz → RS
 | .ok _ s=>s
 | .stop _ s _=>s
def stOfA : Ra → RS
 | .ok _ s=>s
 | .stop _ s _=>s
theorem VisOk.visit {P : List Line} {f E i : Nat} {s : RS} (h : VisOk P s) (hC : CO P f E s.calls) (h1 : f < i) (h2 : i < E) : VisOk P (visit1 s i) := fun v hv=>by
 rcases List.mem_append.1 hv with hv|hv
 ·exact h v hv
 ·rw [List.mem_singleton] at hv; subst hv; exact hC i h1 h2
theorem CO.push {P : List Line} (hP : ProgS P) {f E k g G : Nat} {C : List Int} (hC : CO P f E C) (h1 : f < k) (h2 : k < E) (h6 : ¬ 6 ≤ C.length) (hG : FnAt P g G) (hg : g < P.length) : CO P g G (C ++ [(k : Int)]) := fun i q1 q2=>by
 have hk := hC k h1 h2
 refine ⟨by simp only [List.length_append,List.length_cons,List.length_nil]; omega,by simp,fun x hx=>?_,?_⟩
 ·rcases List.mem_append.1 hx with hx|hx
  ·exact hk.fl x hx
  ·rw [List.mem_singleton] at hx; subst hx
   rw [fol_fn hG (by omega) q2]; exact fn_name hP hg hG.hf
 ·have := hk.mn
  cases C with
  |nil=>exact this
  |cons c C=>exact this
section
variable {ap : Int → Int → Int → Int} {P : List Line} {lim : Nat}
theorem vis_ok (hP : ProgS P) : ∀ n : Nat,(∀ f E k env a s z,FnAt P f E → f < k → k < E → CO P f E s.calls → VisOk P s → evalG ap P lim n k env a s = some z → VisOk P (stOf z)) ∧
  (∀ f E k env m a A s z,FnAt P f E → f < k → k < E → CO P f E s.calls → VisOk P s → opsG ap P lim n k env m a A s = some z → VisOk P (stOfA z)) ∧
  (∀ f E env i s z,FnAt P f E → f < i → i ≤ E → CO P f E s.calls → VisOk P s → bodyG' ap P lim n f env i s = some z → VisOk P (stOf z))
 | 0=>⟨fun f E k env a s z _ _ _ _ _ h=>by simp [evalG] at h,fun f E k env m a A s z _ _ _ _ _ h=>by simp [opsG] at h,fun f E env i s z _ _ _ _ _ h=>by simp [bodyG'] at h⟩
 |n + 1=>by
  obtain ⟨ih1,ih2,ih3⟩ := vis_ok hP n
  refine ⟨fun f E k env a s z hF h1 h2 hC hV h=>?_,fun f E k env m a A s z hF h1 h2 hC hV h=>?_,fun f E env i s z hF h1 h2 hC hV h=>?_⟩
  ·rw [evalG] at h
   cases ht : (exprAt P k)[a]? with
   |none=>rw [ht] at h; cases h; exact hV
   |some t =>
    rw [ht] at h
    simp only at h
    cases hA : opsG ap P lim n k env (arN t) (a + 1) [] s with
    |none=>rw [hA] at h; cases h
    |some q =>
     have g1 := ih2 _ _ _ _ _ _ _ _ _ hF h1 h2 hC hV hA
     rw [hA] at h
     cases q with
     |stop c s1 q=>cases h; exact g1
     |ok A s1 =>
      have g1 : VisOk P s1 := g1
      have gc : s1.calls = s.calls := ((grows n).2.1 _ _ _ _ _ _ _ _ hA).1.2
      simp only at h
      split at h
      ·cases h; exact g1
      ·split at h
       ·cases h; exact g1
       ·split at h
        ·rename_i k7
         split at h
         ·cases h; exact g1
         ·rename_i hc
          obtain ⟨g,gl,gf,g0⟩ := known_call (hF.known k h1 h2) (List.mem_of_getElem? ht) k7
          obtain ⟨G,hG⟩ := hP.fn gl g0
          rw [gf,Int.toNat_natCast] at h
          cases hB : bodyG' ap P lim n g (envA (argsAt P g) A) (g + 1) (pushC s1 k) with
          |none=>rw [hB] at h; cases h
          |some q =>
           have hC1 : CO P f E s1.calls:=by rw [gc]; exact hC
           have g2 := ih3 _ _ _ _ _ _ hG (by omega) (by have := hG.lt; omega) (hC1.push hP h1 h2 hc hG gl) (show VisOk P (pushC s1 k) from g1) hB
           rw [hB] at h
           cases q with
           |stop c s2 q=>cases h; exact g2
           |ok v2 s2=>cases h; exact g2
        ·cases h; exact g1
  ·cases m with
   |zero=>rw [opsG] at h; cases h; exact hV
   |succ m =>
    rw [opsG] at h
    cases hE : evalG ap P lim n k env a s with
    |none=>rw [hE] at h; cases h
    |some q =>
     have g1 := ih1 _ _ _ _ _ _ _ hF h1 h2 hC hV hE
     rw [hE] at h
     cases q with
     |stop c s1 q=>cases h; exact g1
     |ok v s1 =>
      have gc : s1.calls = s.calls := ((grows n).1 _ _ _ _ _ _ hE).2
      exact ih2 _ _ _ _ _ _ _ _ _ hF h1 h2 (show CO P f E s1.calls by rw [gc]; exact hC) g1 h
  ·rw [bodyG'] at h
   by_cases hE : i = E
   ·subst hE
    rw [if_neg (by rw [hF.endk]; omega),if_pos hF.endk,ownE_end hF.hE (opens_of (.inl hF.hf)) hF.lt,if_pos hF.hf] at h
    cases h; exact hV
   have hiE : i < E:=by omega
   by_cases k4 : kd P i = 4
   ·obtain ⟨k,e,p1,p2,p3,p4,p5,p6,p7,p8⟩ := hF.els i h1 hiE k4
    rw [if_pos k4,ownE_else p3,p6,Int.toNat_natCast] at h
    exact ih3 _ _ _ _ _ _ hF (by omega) (by omega) hC hV h
   by_cases k7 : kd P i = 7
   ·obtain ⟨k,p1,p2,p3,p4⟩ := (hF.inF i h1 hiE).owner k7
    have hok := opens_of (P := P) (k := k) (.inr p4)
    rw [if_neg k4,if_pos k7,ownE_end p3 hok p2,if_neg (by omega)] at h
    split at h
    ·exact ih3 _ _ _ _ _ _ hF p1 (by omega) hC hV h
    ·exact ih3 _ _ _ _ _ _ hF (by omega) (by omega) hC hV h
   rw [if_neg k4,if_neg k7] at h
   split at h
   ·cases h; exact hV
   ·have hV1 := hV.visit hC h1 hiE
    cases hE1 : evalG ap P lim n i env 0 (visit1 s i) with
    |none=>rw [hE1] at h; cases h
    |some q =>
     have g1 := ih1 _ _ _ _ _ _ _ hF h1 hiE (show CO P f E (visit1 s i).calls from hC) hV1 hE1
     rw [hE1] at h
     cases q with
     |stop c s1 q=>cases h; exact g1
     |ok v1 s1 =>
      have gc : s1.calls = s.calls := ((grows n).1 _ _ _ _ _ _ hE1).2
      have g1 : VisOk P s1 := g1
      have hC1 : CO P f E s1.calls:=by rw [gc]; exact hC
      have hkk := hF.kinds i h1 hiE
      simp only at h
      split at h
      ·exact ih3 _ _ _ _ _ _ hF (by omega) (by omega) hC1 g1 h
      ·split at h
       ·exact ih3 _ _ _ _ _ _ hF (by omega) (by omega) (show CO P f E (out1 s1 v1).calls from hC1) (show VisOk P (out1 s1 v1) from g1) h
       ·split at h
        ·cases h; exact g1
        ·split at h
         ·obtain ⟨q1,q2⟩ := skipOf_in hF h1 hiE (by omega)
          exact ih3 _ _ _ _ _ _ hF q1 q2 hC1 g1 h
         ·exact ih3 _ _ _ _ _ _ hF (by omega) (by omega) hC1 g1 h
end
theorem stOf_vis (z : Rz) : (ofZ z).2.1 = (stOf z).vis:=by cases z <;> rfl
theorem interp_vis (P : List Line) (l : Int) : (∀ v ∈ (interp P l).2.1,GV P v) ∧ (interp P l).2.1.length ≤ 1000 := by
 unfold interp
 split
 ·rename_i h
  obtain ⟨n,z,hz⟩ := runs h.1 l.toNat
  have hP := progOk_iff.1 h.1
  rw [runZ_of hz,stOf_vis]
  have hl : 0 < P.length := List.length_pos_iff.2 hP.some
  obtain ⟨E,hF⟩ := hP.fn hl hP.main.1
  have hC : CO P 0 E ([] : List Int) := fun i h1 h2=>by
   have := fol_fn hF (i := i) (by omega) h2
   refine ⟨by simp,by simp,fun k hk=>?_,?_⟩
   ·simp only [List.nil_append,List.mem_singleton] at hk; subst hk
    rw [this]; exact fn_name hP hl hP.main.1
   ·show fol P (i : Int) = _
    rw [this]; exact hP.main.2.1
  have hsm := (small n).2.2 0 _ _ _ _ _ (⟨by show l.toNat ≤ 1000; omega,Nat.zero_le _,Nat.le_refl _,Nat.zero_le _⟩ : RsD l.toNat 0 ⟨[],[],[]⟩) hz
  refine ⟨(vis_ok hP n).2.2 _ _ _ _ _ _ hF (by omega) (by have := hF.lt; omega) hC (fun v hv=>by cases hv) hz,?_⟩
  cases z with
  |ok v s=>have := hsm.v; have := hsm.l; show s.vis.length ≤ 1000; omega
  |stop c s q=>have := hsm.1.v; have := hsm.1.l; show s.vis.length ≤ 1000; omega
 ·exact ⟨fun v hv=>(by cases hv),by simp⟩
end Go.Proofs.Ytjjbcoigaejoaaa

namespace Go.Proofs.Ytjjbcoigaejoaaa
noncomputable def vstk (P : List Line) (l : Int) : List (List Frame) := (interp P l).2.1.map (vfr P)
end Go.Proofs.Ytjjbcoigaejoaaa

namespace Go.Proofs.Ytjjbcoigaejoaaa
theorem firstIdx_app {α : Type} (p : α → Bool) (A B : List α) : firstIdx p (A ++ B) = if 0 ≤ firstIdx p A then firstIdx p A else if 0 ≤ firstIdx p B then (A.length : Int) + firstIdx p B else -1 := by
 unfold firstIdx
 rw [List.findIdx?_append]
 cases A.findIdx? p with
 |some k=>simp
 |none =>
  cases B.findIdx? p with
  |some k =>
   simp only [Option.none_or,Option.map_some]
   rw [if_neg (by decide),if_pos (by omega)]; omega
  |none=>simp
theorem child_app {N : List Node} {p : Int} {f : Frame} (h : ¬ child N p f < 0) (M : List Node) : child (N ++ M) p f = child N p f := by
 unfold child at h ⊢
 rw [firstIdx_app,if_pos (by omega)]
theorem child_new {N : List Node} {p : Int} {f : Frame} (h : child N p f < 0) (M : List Node) : child (N ++ [mkNode p f] ++ M) p f = (N.length : Int) := by
 unfold child at h ⊢
 have h1 : firstIdx (hitNode p f) [mkNode p f] = 0 := by
  unfold firstIdx
  simp [List.findIdx?_cons,hitNode,mkNode,nodeFr]
 rw [List.append_assoc,firstIdx_app,if_neg (by omega),firstIdx_app,h1]
 simp
def findGo (N : List Node) : List Frame → Int → Int
 | [],p=>p
 |f :: L,p=>if child N p f < 0 then -1 else findGo N L (child N p f)
def findS (N : List Node) (L : List Frame) : Int := if stacksOk N = true then findGo N L (-1) else -1
theorem findGo_bound {N : List Node} : ∀ (L : List Frame) (p : Int),-1 ≤ p → p < N.length → -1 ≤ findGo N L p ∧ findGo N L p < N.length
 | [],p,h1,h2=>⟨h1,h2⟩
 |f :: L,p,h1,h2=>by
  have := child_bound N p f
  rw [findGo]
  split
  ·omega
  ·exact findGo_bound L _ (by omega) this.2
theorem findGo_app {N : List Node} (M : List Node) : ∀ (L : List Frame) (p : Int),0 ≤ p ∨ L ≠ [] → 0 ≤ findGo N L p → findGo (N ++ M) L p = findGo N L p
 | [],p,_,h=>rfl
 |f :: L,p,_,h=>by
  rw [findGo] at h ⊢
  split at h
  ·omega
  ·rename_i hc
   rw [findGo,child_app hc,if_neg hc,if_neg hc]
   exact findGo_app M L _ (.inl (by omega)) h
theorem intGo_pre : ∀ (L : List Frame) (s : List Node × Int),∃ M,(intGo L s).1 = s.1 ++ M
 | [],s=>⟨[],by simp [intGo]⟩
 |f :: L,s=>by
  rw [intGo]
  split
  ·obtain ⟨M,e⟩ := intGo_pre L (s.1 ++ [mkNode s.2 f],(s.1.length : Int))
   exact ⟨[mkNode s.2 f] ++ M,by rw [e,List.append_assoc]⟩
  ·exact intGo_pre L (s.1,child s.1 s.2 f)
theorem intGo_find : ∀ (L : List Frame) (s : List Node × Int),findGo (intGo L s).1 L s.2 = (intGo L s).2
 | [],s=>rfl
 |f :: L,s=>by
  rw [intGo]
  split
  ·rename_i hc
   obtain ⟨M,e⟩ := intGo_pre L (s.1 ++ [mkNode s.2 f],(s.1.length : Int))
   have ih := intGo_find L (s.1 ++ [mkNode s.2 f],(s.1.length : Int))
   rw [findGo]
   rw [e] at ih ⊢
   simp only at ih ⊢
   rw [child_new hc,if_neg (by omega)]
   exact ih
  ·rename_i hc
   obtain ⟨M,e⟩ := intGo_pre L (s.1,child s.1 s.2 f)
   have ih := intGo_find L (s.1,child s.1 s.2 f)
   rw [findGo]
   rw [e] at ih ⊢
   simp only at ih ⊢
   rw [child_app hc,if_neg hc]
   exact ih
abbrev PrT := List Node × List Int
def trGo : List (List Frame) → Int → PrT → Option PrT
 |F :: S,n,p=>if (addStack p.1 p.2 F n).2 = true then trGo S n (addStack p.1 p.2 F n).1 else none
 | [],_,p=>some p
noncomputable def tru (P : List Line) (l n : Int) : Option PrT := if (interp P l).2.2.2 = 0 ∧ 1 ≤ n ∧ n ≤ 3 then trGo (vstk P l) n ([],[]) else none
structure TrI (S : List (List Frame)) (n : Int) (k : Nat) (s : PrT) : Prop where
 ok : profileOk s.1 s.2 = true
 sum : s.2.sum = n * k
 len : s.1.length ≤ 7 * k
 lenC : s.2.length ≤ 7 * k
 names : ∀ x ∈ s.1,x.name.size ≤ 1048576
 cnt : ∀ j (hj : j < k) (hs : j < S.length),∃ q : Nat,findGo s.1 S[j] (-1) = (q : Int) ∧ q < s.1.length ∧ n ≤ s.2.getD q 0
structure StOk (S : List (List Frame)) : Prop where
 len : S.length ≤ 1000
 st : ∀ F ∈ S,F ≠ [] ∧ F.length ≤ 7 ∧ F.all frOk = true ∧ ∀ f ∈ F,f.name.size ≤ 1048576
theorem TrI.zero (S : List (List Frame)) (n : Int) : TrI S n 0 ([],[]) := ⟨by decide,by simp,by simp,by simp,by simp,fun j hj=>by omega⟩
theorem getD_nonneg {C : List Int} (h : ∀ x ∈ C,0 ≤ x) (k : Nat) : 0 ≤ C.getD k 0 := by
 rw [List.getD_eq_getElem?_getD]
 cases hk : C[k]? with
 |none=>exact Int.le_refl _
 |some x=>exact h x (List.mem_of_getElem? hk)
theorem getD_addC_le {C : List Int} {m q k : Nat} {n : Int} (hq : q < max C.length m) (hn : 0 ≤ n) : C.getD k 0 ≤ (addC C m q n).getD k 0 := by
 rw [addC_getD hq]
 split <;> omega
theorem TrI.next {S : List (List Frame)} {n : Int} {k : Nat} {s : PrT} (hS : StOk S) (h1 : 1 ≤ n) (h3 : n ≤ 3) (h : TrI S n k s) (hk : k < S.length) : (addStack s.1 s.2 S[k] n).2 = true ∧ TrI S n (k + 1) (addStack s.1 s.2 S[k] n).1 := by
 obtain ⟨f1,f2,f3,f4⟩ := hS.st _ (List.getElem_mem hk)
 have hl := hS.len
 have hsum := h.sum
 have hnk : n * (k : Int) ≤ 3 * 1000 := by
  have : n * (k : Int) ≤ 3 * (k : Int) := Int.mul_le_mul_of_nonneg_right h3 (by omega)
  omega
 obtain ⟨a1,a2,a3⟩ := addStack_total (n := n) h.ok f1 f3 (by omega) (by omega)
 have al := addStack_len s.1 s.2 S[k] n
 refine ⟨a1,⟨a3,?_,?_,?_,addStack_names h.names f4,fun j hj hs=>?_⟩⟩
 ·rw [a2,hsum,show ((k + 1 : Nat) : Int) = (k : Int) + 1 by omega,Int.mul_add,Int.mul_one]
 ·have := h.len; omega
 ·have := h.len; have := h.lenC; omega
 ·obtain ⟨p1,p2,p3⟩ := profileOk_iff.1 h.ok
  have hcond : profileOk s.1 s.2 = true ∧ 0 ≤ n ∧ n ≤ 1000000000000 ∧ 0 ≤ (intern s.1 S[k]).2 ∧ profileOk (intern s.1 S[k]).1 (addC s.2 (intern s.1 S[k]).1.length (intern s.1 S[k]).2.toNat n) = true := by
   by_cases hc : profileOk s.1 s.2 = true ∧ 0 ≤ n ∧ n ≤ 1000000000000 ∧ 0 ≤ (intern s.1 S[k]).2 ∧ profileOk (intern s.1 S[k]).1 (addC s.2 (intern s.1 S[k]).1.length (intern s.1 S[k]).2.toNat n) = true
   ·exact hc
   ·unfold addStack at a1; rw [if_neg hc] at a1; cases a1
  have he : (addStack s.1 s.2 S[k] n).1 = ((intern s.1 S[k]).1,addC s.2 (intern s.1 S[k]).1.length (intern s.1 S[k]).2.toNat n) := by
   unfold addStack; rw [if_pos hcond]
  have hi : intern s.1 S[k] = intGo S[k] (s.1,-1) := by
   unfold intern; rw [if_pos ⟨p1,f1,f3⟩]
  have hfind := intGo_find S[k] (s.1,-1)
  obtain ⟨M,hM⟩ := intGo_pre S[k] (s.1,-1)
  have hat := intern_at s.1 S[k]
  have hln := intern_len s.1 S[k]
  have h0 := hcond.2.2.2.1
  rw [he]
  simp only
  generalize hI : intern s.1 S[k] = I at *
  rw [← hi] at hfind hM
  by_cases hjk : j = k
  ·subst hjk
   refine ⟨I.2.toNat,by rw [hfind]; omega,by omega,?_⟩
   rw [addC_getD (by omega),if_pos rfl]
   have := getD_nonneg (cntOk_nonneg p3) I.2.toNat
   omega
  ·obtain ⟨q,q1,q2,q3⟩ := h.cnt j (by omega) hs
   refine ⟨q,?_,by omega,?_⟩
   ·have hne := (hS.st _ (List.getElem_mem hs)).1
    rw [hM]
    simp only
    rw [findGo_app M _ _ (.inr hne) (by omega),q1]
   ·exact Int.le_trans q3 (getD_addC_le (by omega) (by omega))
theorem trGo_run {S : List (List Frame)} {n : Int} (hS : StOk S) (h1 : 1 ≤ n) (h3 : n ≤ 3) : ∀ (m k : Nat) (s : PrT),S.length - k = m → k ≤ S.length → TrI S n k s → ∃ t,trGo (S.drop k) n s = some t ∧ TrI S n S.length t
 | 0,k,s,hm,hk,h=>by
  obtain rfl : k = S.length:=by omega
  exact ⟨s,by rw [List.drop_length]; rfl,h⟩
 |m + 1,k,s,hm,hk,h=>by
  have hlt : k < S.length:=by omega
  obtain ⟨a1,a2⟩ := h.next hS h1 h3 hlt
  obtain ⟨t,t1,t2⟩ := trGo_run hS h1 h3 m (k + 1) _ (by omega) (by omega) a2
  exact ⟨t,by rw [List.drop_eq_getElem_cons hlt,trGo,if_pos a1]; exact t1,t2⟩
theorem folN_line {P : List Line} : ∀ n : Nat,folN P n ≠ ⟨#[]⟩ → ∃ x ∈ P,x.kind = 0 ∧ folN P n = x.name
 | 0,h=>absurd rfl h
 |n + 1,h=>by
  rw [folN] at h ⊢
  cases hx : P[n]? with
  |none=>rw [hx] at h; simp only at h ⊢; exact folN_line n h
  |some x =>
   rw [hx] at h
   simp only at h ⊢
   split
   ·rename_i h0; exact ⟨x,List.mem_of_getElem? hx,h0,rfl⟩
   ·rename_i h0; rw [if_neg h0] at h; exact folN_line n h
theorem fol_line {P : List Line} {k : Int} (h : fol P k ≠ ⟨#[]⟩) : 0 ≤ k ∧ k < P.length ∧ ∃ x ∈ P,x.kind = 0 ∧ fol P k = x.name := by
 unfold fol at h ⊢
 split
 ·rename_i hk
  rw [if_pos hk] at h
  obtain ⟨x,x1,x2,x3⟩ := folN_line _ h
  exact ⟨hk.1,hk.2,x,x1,x2,x3⟩
 ·rename_i hk
  rw [if_neg hk] at h
  exact absurd rfl h
theorem GV.frames {P : List Line} {v : List Int} (h : GV P v) : vfr P v = visitF P v := by
 unfold vfr
 rw [if_neg]
 rintro ⟨k,k1,k2⟩
 exact h.fl k k1 k2
theorem GV.st {P : List Line} (hP : ProgS P) {v : List Int} (h : GV P v) : vfr P v ≠ [] ∧ (vfr P v).length = v.length ∧ (vfr P v).all frOk = true ∧ (∀ f ∈ vfr P v,f.name.size ≤ 1048576) ∧ ∃ f R,vfr P v = f :: R ∧ f.name = mainB := by
 have hs := h.some
 have hmn := h.mn
 have hfl := h.fl
 rw [h.frames]
 have hf : ∀ f ∈ visitF P v,frOk f = true := fun f hf=>by
  obtain ⟨k,hk,rfl⟩ := List.mem_map.1 hf
  obtain ⟨k1,k2,x,x1,x2,x3⟩ := fol_line (hfl k hk)
  have := hP.few
  exact frOk_iff.2 ⟨by simp only; rw [x3]; exact (hP.lines x x1).name (.inl x2),k1,by simp only; omega⟩
 refine ⟨?_,by simp [visitF],List.all_eq_true.2 hf,fun f hf'=>?_,?_⟩
 ·cases v with
  |nil=>exact absurd rfl hs
  |cons a v=>simp [visitF]
 ·have := (nameOk_letters (frOk_iff.1 (hf f hf')).1)
  obtain ⟨a,b,c⟩ := this
  omega
 ·cases v with
  |nil=>exact absurd rfl hs
  |cons a v=>exact ⟨_,_,rfl,hmn⟩
theorem vstk_ok (P : List Line) (l : Int) : StOk (vstk P l) := by
 obtain ⟨h1,h2⟩ := interp_vis P l
 refine ⟨by unfold vstk; rw [List.length_map]; exact h2,fun F hF=>?_⟩
 unfold vstk at hF
 obtain ⟨v,hv,rfl⟩ := List.mem_map.1 hF
 by_cases hp : progOk P = true
 ·obtain ⟨a,b,c,d,_⟩ := (h1 v hv).st (progOk_iff.1 hp)
  exact ⟨a,by have := (h1 v hv).len; omega,c,d⟩
 ·exfalso
  have : (interp P l).2.1 = []:=by unfold interp; rw [if_neg fun q=>hp q.1]
  rw [this] at hv; cases hv
theorem tru_iff (P : List Line) (l n : Int) : (tru P l n).isSome = decide ((interp P l).2.2.2 = 0 ∧ 1 ≤ n ∧ n ≤ 3) := by
 unfold tru
 by_cases h : (interp P l).2.2.2 = 0 ∧ 1 ≤ n ∧ n ≤ 3
 ·obtain ⟨t,t1,_⟩ := trGo_run (vstk_ok P l) h.2.1 h.2.2 _ 0 ([],[]) rfl (by omega) (TrI.zero _ _)
  rw [if_pos h,decide_eq_true h]
  rw [List.drop_zero] at t1
  rw [t1]; rfl
 ·rw [if_neg h,decide_eq_false h]; rfl
theorem tru_at {P : List Line} {l n : Int} {t : PrT} (h : tru P l n = some t) : 1 ≤ n ∧ n ≤ 3 ∧ TrI (vstk P l) n (vstk P l).length t := by
 unfold tru at h
 split at h
 ·rename_i hc
  obtain ⟨t',t1,t2⟩ := trGo_run (vstk_ok P l) hc.2.1 hc.2.2 _ 0 ([],[]) rfl (by omega) (TrI.zero _ _)
  rw [List.drop_zero,h] at t1
  cases t1
  exact ⟨hc.2.1,hc.2.2,t2⟩
 ·cases h
end Go.Proofs.Ytjjbcoigaejoaaa

namespace Go.Proofs.Ytjjbcoigaejoaaa
open Go.Vc
attribute [local irreducible] Go.Vc.WP
attribute [local go_sem] cx0_t cx0_c
attribute [local go_sem] isV_Node isV_It decNode_enc decFrame_enc oneFrame_enc stkA oneFrame_ab oneNode_abc decI_enc prA
def kFindS : Ctr := pur (fun args=>(stkA args 0,decFrame (aR args 1))) (fun x=>[.agg [.sl 3 (x.1.map encNode)],.sl 2 (x.2.map encFrame)]) (fun x=>wfN x.1 ∧ x.2.length ≤ 1048576) (fun _ x=>.v (.int .i64 (findS x.1 x.2))) (fun _ _=>[])
def countOf (N : List Node) (C : List Int) (L : List Frame) : Int := if findS N L < 0 ∨ profileOk N C = false then 0 else C.getD (findS N L).toNat 0
def kCountOf : Ctr := pur (fun args=>(prA args 0,decFrame (aR args 1))) (fun x=>[.agg [.sl 3 (x.1.1.map encNode),.sl 1 (x.1.2.map encI)],.sl 2 (x.2.map encFrame)]) (fun x=>wfP x.1 ∧ x.2.length ≤ 1048576) (fun _ x=>.v (.int .i64 (countOf x.1.1 x.1.2 x.2))) (fun _ _=>[])
def kSameF : Ctr := pur (fun args=>decFrame (aR args 0)) (fun L=>[.sl 2 (L.map encFrame),.sl 2 (L.map encFrame)]) (fun L=>L.length ≤ 1048576) (fun _ _=>.v (.bool true)) (fun _ _=>[])
section
noncomputable def cxFdS := mkX [(74,kStOk),(75,kChild)] (COk.cons cStOkS (COk.cons cChildS (COk.nil _)))
theorem cxFdS_t : cxFdS.tys = tys := rfl
theorem cxFdS_c : cxFdS.C = [(74,kStOk),(75,kChild)] := rfl
attribute [local go_sem] cxFdS_t cxFdS_c kStOk kChild
theorem cFindStS : Cn Try.prog 38 kFindS := by
 refine Cn.pur Try.func38 (by kernel_rfl) rfl fun d x hx=>?_
 obtain ⟨N,L⟩ := x
 obtain ⟨⟨hN,hs⟩,hL⟩ := hx
 simp only at hN hs hL ⊢
 refine Holds.go (c := cxFdS) Try.func38 rfl Try.results38 Try.ntmps38 (by omega) (by simp) rfl ?_
 intro X0 w0
 cases hok : stacksOk N with
 |false =>
  have e : findS N L = -1:=by unfold findS; rw [if_neg (by rw [hok]; simp)]
  (repeat' (first|apply zS|apply zB|((first|apply zR|apply zC|apply zT|apply zE|apply zK| refine zD 7 (by decide +kernel) (by kernel_rfl) ?_); simp only [go_sem,hok,e])|apply And.intro|intro _))
  all_goals first|omega|exact hs _ ‹_›|skip
 |true =>
  have e : findS N L = findGo N L (-1):=by unfold findS; rw [if_pos hok]
  rw [e]
  (repeat' (first|apply zS|apply zB|((first|apply zR|apply zC|apply zT|apply zE|apply zK| refine zD 7 (by decide +kernel) (by kernel_rfl) ?_); simp only [go_sem,hok])|apply And.intro|intro _))
  all_goals first|omega|exact hs _ ‹_›|skip
  refine zL (fun s : Nat × Int=>⟨[(1,.sl 2 (L.map encFrame)),(2,.ptr 2 0 0 0),(5,.v (.int .i64 s.2)),(6,.v (.int .i64 (s.1 : Nat)))],[(2,.box 43 [.sl 3 (N.map encNode)])]⟩)
   (fun s=>s.1 ≤ L.length ∧ findGo N L (-1) = findGo N (L.drop s.1) s.2) (fun s=>L.length - s.1) (0,-1) ⟨by simp,by simp⟩ ?_ ?_
  ·(simp only [go_sem] <;> (first|(and_intros <;> rfl)|simp))
  rintro ⟨k,p⟩ ⟨hk,hI⟩
  simp only at hk hI ⊢
  by_cases hlt : k < L.length
  ·have hli : (k : Int) < L.length:=by omega
   have h1 := rowAt_map encFrame L k hlt
   rw [List.drop_eq_getElem_cons hlt,findGo] at hI
   generalize L[k] = f at h1 hI
   obtain ⟨a,b⟩ := f
   rw [encFrame] at h1
   simp only at h1
   by_cases hc : child N p ⟨a,b⟩ < 0
   ·rw [if_pos hc] at hI
    rw [hI]
    (repeat' (first|apply zS|apply zB|((first|apply zR|apply zC|apply zT|apply zE|apply zK| refine zD 7 (by decide +kernel) (by kernel_rfl) ?_); simp only [go_sem,hli,h1,hc,encFrame])|apply And.intro|intro _))
    all_goals first|omega|rfl|skip
   ·rw [if_neg hc] at hI
    (repeat' (first|apply zS|apply zB|((first|apply zR|apply zC|apply zT|apply zE|apply zK| refine zD 7 (by decide +kernel) (by kernel_rfl) ?_); simp only [go_sem,hli,h1,hc,encFrame])|apply And.intro|intro _))
    all_goals first|omega|rfl|skip
    all_goals first|exact ⟨(k + 1,child N p ⟨a,b⟩),⟨by simp only; omega,hI⟩,by simp only; omega,by (first|(and_intros <;> rfl)|simp)⟩|trace_state
  ·have hge : ¬ (k : Int) < L.length:=by omega
   rw [hI,List.drop_of_length_le (by omega),findGo]
   (repeat' (first|apply zS|apply zB|((first|apply zR|apply zC|apply zT|apply zE|apply zK| refine zD 7 (by decide +kernel) (by kernel_rfl) ?_); simp only [go_sem,hge])|apply And.intro|intro _))
   all_goals first|omega|rfl|skip
end
section
noncomputable def cxCoS := mkX [(38,kFindS),(39,kPrOk)] (COk.cons cFindStS (COk.cons cPrOkS (COk.nil _)))
theorem cxCoS_t : cxCoS.tys = tys := rfl
theorem cxCoS_c : cxCoS.C = [(38,kFindS),(39,kPrOk)] := rfl
attribute [local go_sem] cxCoS_t cxCoS_c kFindS kPrOk
theorem cCountS : Cn Try.prog 19 kCountOf := by
 refine Cn.pur Try.func19 (by kernel_rfl) rfl fun d x hx=>?_
 obtain ⟨⟨N,C⟩,L⟩ := x
 obtain ⟨⟨⟨hN,hs⟩,hC⟩,hL⟩ := hx
 simp only at hN hs hC hL ⊢
 have hb : -1 ≤ findS N L ∧ findS N L < N.length ∨ findS N L = -1 := by
  unfold findS
  split
  ·exact .inl (findGo_bound L (-1) (by omega) (by omega))
  ·exact .inr rfl
 refine Holds.go (c := cxCoS) Try.func19 rfl Try.results19 Try.ntmps19 (by omega) (by simp) rfl ?_
 intro X0 w0
 by_cases h0 : findS N L < 0
 ·have e : countOf N C L = 0 := if_pos (.inl h0)
  (repeat' (first|apply zS|apply zB|((first|apply zR|apply zC|apply zT|apply zE|apply zK);simp only [go_sem,h0,e])|apply And.intro|intro _))
  all_goals first|omega|rfl|exact hs _ ‹_›|skip
 ·obtain ⟨q,hq⟩ := Int.eq_ofNat_of_zero_le (Int.not_lt.1 h0)
  have hq0 : ¬ ((q : Nat) : Int) < 0:=by omega
  cases hp : profileOk N C with
  |false =>
   have e : countOf N C L = 0 := if_pos (.inr hp)
   (repeat' (first|apply zS|apply zB|((first|apply zR|apply zC|apply zT|apply zE|apply zK);simp only [go_sem,hq,hq0,hp,e])|apply And.intro|intro _))
   all_goals first|omega|rfl|exact hs _ ‹_›|skip
  |true =>
   have hl := (profileOk_iff.1 hp).2.1
   have hqC : q < C.length:=by omega
   have hqi : ((q : Nat) : Int) < C.length:=by omega
   have e : countOf N C L = C.getD q 0 := by
    unfold countOf
    rw [if_neg (by rw [hp]; simp; omega),hq,Int.toNat_natCast]
   have hr := rowAt_map encI C q hqC
   rw [encI,show C[q] = C.getD q 0 by rw [List.getD_eq_getElem?_getD,List.getElem?_eq_getElem hqC]; rfl] at hr
   (repeat' (first|apply zS|apply zB|((first|apply zR|apply zC|apply zT|apply zE|apply zK);simp only [go_sem,hq,hq0,hp,e,hqi,hr])|apply And.intro|intro _))
   all_goals first|omega|rfl|exact hs _ ‹_›|skip
end
section
theorem cSameF : Cn Try.prog 17 kSameF := by
 refine Cn.pur Try.func17 (by kernel_rfl) rfl fun d x hx=>?_
 rename List Frame=>L
 refine Holds.go (c := cx0) Try.func17 rfl Try.results17 Try.ntmps17 (by omega) (by simp) rfl ?_
 intro X0 w0
 (repeat' (first|apply zS|apply zB|((first|apply zR|apply zC|apply zT|apply zE|apply zK| refine zD 9 (by decide +kernel) (by kernel_rfl) ?_); simp only [go_sem])|apply And.intro|intro _))
 all_goals first|omega|skip
 refine zL (fun k : Nat=>⟨[(0,.sl 2 (L.map encFrame)),(1,.sl 2 (L.map encFrame)),(5,.v (.int .i64 (k : Nat)))],[]⟩) (fun k=>k ≤ L.length) (fun k=>L.length - k) 0 (by simp) ?_ ?_
 ·(simp only [go_sem] <;> (first|(and_intros <;> rfl)|simp))
 intro k hk
 by_cases hlt : k < L.length
 ·have hli : (k : Int) < L.length:=by omega
  have h1 := rowAt_map encFrame L k hlt
  (repeat' (first|apply zS|apply zB|((first|apply zR|apply zC|apply zT|apply zE|apply zK| refine zD 9 (by decide +kernel) (by kernel_rfl) ?_); simp only [go_sem,hli,h1,encFrame])|apply And.intro|intro _))
  all_goals first|omega|rfl|exact ⟨k + 1,by omega,by omega,by (first|(and_intros <;> rfl)|simp)⟩|skip
 ·have hge : ¬ (k : Int) < L.length:=by omega
  (repeat' (first|apply zS|apply zB|((first|apply zR|apply zC|apply zT|apply zE|apply zK| refine zD 9 (by decide +kernel) (by kernel_rfl) ?_); simp only [go_sem,hge])|apply And.intro|intro _))
  all_goals first|omega|rfl|skip
end
end Go.Proofs.Ytjjbcoigaejoaaa

namespace Go.Vc
def SV.jk (js : List Nat) : SV → SV
 | .own i=>if js.contains i then .junk else .own i
 | .ptr i s a b=>if js.contains i then .junk else .ptr i s a b
 | .agg _=>.junk
 | .tup _=>.junk
 | .fn _ _=>.junk
 | .cond _ _=>.junk
 |x=>x
def Ob.jk (js : List Nat) : Ob → Ob
 | .box e cs=>.box e (cs.map (SV.jk js))
 |o=>o
def St.hasO (st : St) (cc : Nat) (K : Ob → Prop) : Prop := match lk cc st.hp with
 |some ob=>K ob
 |none=>False
def St.setO (st : St) (cc : Nat) (ob : Ob) : St := { st with hp := (cc,ob) :: er cc st.hp }
theorem SV.jk_kill {js : List Nat} {d : Nat} (hd : d ∈ js) (x : SV) : (x.kill d).jk js = x.jk js := by
 have hc : js.contains d = true := List.contains_iff_mem.2 hd
 cases x with
 |own i =>
  show (if i = d then SV.junk else .own i).jk js = _
  by_cases h : i = d
  ·subst h; rw [if_pos rfl]; simp only [SV.jk,hc,if_true]
  ·rw [if_neg h]
 |ptr i s a b =>
  show (if i = d then SV.junk else .ptr i s a b).jk js = _
  by_cases h : i = d
  ·subst h; rw [if_pos rfl]; simp only [SV.jk,hc,if_true]
  ·rw [if_neg h]
 | _=>rfl
def Ob.bx : Ob → Bool
 | .box _ _=>true
 | _=>false
theorem Ob.jk_kill {js : List Nat} {d : Nat} (hd : d ∈ js) {o : Ob} (hb : o.bx = true) : (o.kill d).jk js = o.jk js ∧ (o.kill d).bx = true := by
 cases o with
 |box e cs =>
  refine ⟨?_,rfl⟩
  simp only [Ob.kill,Ob.jk,List.map_map]
  congr 1
  exact List.map_congr_left fun x _=>SV.jk_kill hd x
 | _=>cases hb
section
variable {c : Cx} {N : Nat} {X0 : Nat → Prop} {M : Nat → BV → Prop} {w0 : World} {K : Exit → St → Prop} {st : St} {β : Nat → BV} {a : Act} {w : World}
theorem R.jk {X : Nat → Prop} {js : List Nat} {x : SV} {v : Value} (h : R w X β x v) : R w X β (x.jk js) v := by
 cases x with
 |own i=>show R w X β (if js.contains i then .junk else .own i) v; split <;> first|exact .junk _|exact h
 |ptr i s a b=>show R w X β (if js.contains i then .junk else .ptr i s a b) v; split <;> first|exact .junk _|exact h
 |v x=>exact h
 |sl s rows=>exact h
 |rptr s rows i k=>exact h
 |junk=>exact h
 | _=>exact .junk _
theorem Sim.jk (h : Sim N X0 M w0 st β a w) {cc : Nat} {ob : Ob} {js : List Nat} (hl : lk cc st.hp = some ob) : Sim N X0 M w0 (st.setO cc (ob.jk js)) β a w := by
 have hlk : ∀ {id o},lk id (st.setO cc (ob.jk js)).hp = some o → (id = cc ∧ o = ob.jk js) ∨ (id ≠ cc ∧ lk id st.hp = some o) := fun {id o} hi=>by
  by_cases he : id = cc
  ·subst he; simp only [St.setO,lk,if_true] at hi; exact .inl ⟨rfl,by simpa using hi.symm⟩
  ·simp only [St.setO,lk,if_neg he,lk_er_ne he] at hi; exact .inr ⟨he,hi⟩
 have hold : ∀ {id o},lk id (st.setO cc (ob.jk js)).hp = some o → ∃ o',lk id st.hp = some o' := fun {id o} hi=>by
  rcases hlk hi with ⟨rfl,_⟩|⟨_,h2⟩
  ·exact ⟨ob,hl⟩
  ·exact ⟨o,h2⟩
 have hX : ∀ b,XX X0 β (st.setO cc (ob.jk js)).hp b → XX X0 β st.hp b := fun b hb=>by
  rcases hb with hb|⟨id,o,hi,hb⟩
  ·exact .inl hb
  ·obtain ⟨o',ho'⟩ := hold hi; exact .inr ⟨id,o',ho',hb⟩
 have hS : Same (XX X0 β st.hp) w w := ⟨Nat.le_refl _,fun _ _ _=>rfl⟩
 exact { h with
  slots := fun t x hx=>(h.slots t x hx).mono hS fun b _ hb=>hX b hb
  objs := fun id o hi=>by
   rcases hlk hi with ⟨rfl,rfl⟩|⟨_,h2⟩
   ·have hO := (h.objs id ob hl).mono (X' := XX X0 β (st.setO id (ob.jk js)).hp) hS (fun b _ hb=>hX b hb) (fun _ _=>rfl)
    cases ob with
    |box e cs =>
     cases hO with
     |box b cur hv hh hl' hc =>
      refine .box b cur hv hh (by simpa using hl') fun k c u hk hu=>?_
      obtain ⟨c0,h0,rfl⟩ := map_get hk
      exact ⟨(hc k c0 u h0 hu).1,(hc k c0 u h0 hu).2.jk⟩
    | _=>exact hO
   ·exact (h.objs id o h2).mono hS (fun b _ hb=>hX b hb) (fun _ _=>rfl)
  inj := fun i j oi oj b hi hj=>by
   obtain ⟨o1,h1⟩ := hold hi
   obtain ⟨o2,h2⟩ := hold hj
   exact h.inj i j o1 o2 b h1 h2
  mine := fun id o b hi hb=>by obtain ⟨o1,h1⟩ := hold hi; exact h.mine id o1 b h1 hb }
theorem flow_headB {ops : Array Oper} {m : Nat} {fl : List Fp} {cc : Nat} {obJ : Ob} {js : List Nat} (hcc : ∀ k,k < m → cc ∉ (fpAt fl k).mks ∧ cc ∉ (fpAt fl k).gn) (hjs : ∀ k,k < m → ∀ d,d ∈ (fpAt fl k).mks ∨ d ∈ (fpAt fl k).gn → d ∈ js) (hAp : Ap c.P X0 M w0) (hB : FlowOk ops m fl) {base : St} {F : Nat → Nat × Dl} {gs : List Nat}
  (hF : ∀ k o,k < m → ops[k]? = some o → (base.least ((List.range k).map fun q=>(q,F q)) (fpAt fl k)).dlt c.tys c.C N ops o (F k).1 (F k).2 ∧ ((fpAt fl k).lks.all fun t=>(lk t (base.least ((List.range k).map fun q=>(q,F q)) (fpAt fl k)).fr).isSome) = true ∧ dlOk (fpAt fl k) (F k).2)
  (hb1 : ∀ t x,lk t base.fr = some x → (∀ k,k < m → dstAt ops k ≠ some t) ∧ ∀ k,k < m → ∀ d ∈ (fpAt fl k).mks,x.kill d = x)
  (hb2 : ∀ id ob,lk id base.hp = some ob → ∀ k,k < m → ∀ d ∈ (fpAt fl k).mks,d ≠ id ∧ ob.kill d = ob) (hgs : ∀ k,k < m → ∀ d ∈ (fpAt fl k).gn,d ∈ gs)
  (hr : St.runR c.tys c.C N ops (ops.toList.drop m) ((base.final ((List.range m).map fun q=>(q,F q)) gs).setO cc obJ) (K .normal)) : ∀ (fuel : Nat) (listed : Array Bool) (st' : St) (β : Nat → BV) (a : Act) (w : World),listed.size = ops.size →
  (∀ j,m ≤ j → j < ops.size → listed.getD j false = false) → fuel = (List.range ops.size).countP (fun j=>!listed.getD j false) → Closed fl ops.size listed → Sim N X0 M w0 st' β a w →
  (∀ t x,lk t base.fr = some x → (∀ d,(∃ j,j < m ∧ listed.getD j false = true ∧ d ∈ (fpAt fl j).gn) → x.kill d = x) → lk t st'.fr = some x) →
  (∀ k,k < m → listed.getD k false = true → (∀ d,(∃ j,j < m ∧ listed.getD j false = true ∧ d ∈ (fpAt fl j).gn) → (F k).2.x.kill d = (F k).2.x) → lk (F k).1 st'.fr = some (F k).2.x) →
  (∀ id ob,lk id base.hp = some ob → (∀ d,(∃ j,j < m ∧ listed.getD j false = true ∧ d ∈ (fpAt fl j).gn) → d ≠ id ∧ ob.kill d = ob) → lk id st'.hp = some ob) →
  (∀ k,k < m → listed.getD k false = true → ∀ id ob,lk id (F k).2.made = some ob → (∀ d,(∃ j,j < m ∧ listed.getD j false = true ∧ d ∈ (fpAt fl j).gn) → d ≠ id ∧ ob.kill d = ob) → lk id st'.hp = some ob) → (∃ ob',lk cc st'.hp = some ob' ∧ ob'.bx = true ∧ ob'.jk js = obJ) →
  wpAny c.P .any ops (fun e a' w'=>Ok N X0 M w0 (K e) a' w') fuel listed a w := by
 have hdst : ∀ k,k < m → dstAt ops k = some (F k).1 := fun k hk=>by
  have hks : k < ops.size:=by have := hB.le; omega
  have ho : ops[k]? = some (ops[k]'hks) := Array.getElem?_eq_getElem hks
  have := (hF k _ hk ho).1.1
  unfold dstAt
  rw [ho]; exact this
 have hlast : ∀ (fuel : Nat) (listed : Array Bool) (st' : St) (β : Nat → BV) (a : Act) (w : World),m + fuel = ops.size → listed.size = ops.size → Closed fl ops.size listed → (∀ j,j < ops.size → listed.getD j false = decide (j < m)) → Sim N X0 M w0 st' β a w →
   (∀ t x,lk t base.fr = some x → (∀ d,(∃ j,j < m ∧ listed.getD j false = true ∧ d ∈ (fpAt fl j).gn) → x.kill d = x) → lk t st'.fr = some x) →
   (∀ k,k < m → listed.getD k false = true → (∀ d,(∃ j,j < m ∧ listed.getD j false = true ∧ d ∈ (fpAt fl j).gn) → (F k).2.x.kill d = (F k).2.x) → lk (F k).1 st'.fr = some (F k).2.x) →
   (∀ id ob,lk id base.hp = some ob → (∀ d,(∃ j,j < m ∧ listed.getD j false = true ∧ d ∈ (fpAt fl j).gn) → d ≠ id ∧ ob.kill d = ob) → lk id st'.hp = some ob) →
   (∀ k,k < m → listed.getD k false = true → ∀ id ob,lk id (F k).2.made = some ob → (∀ d,(∃ j,j < m ∧ listed.getD j false = true ∧ d ∈ (fpAt fl j).gn) → d ≠ id ∧ ob.kill d = ob) → lk id st'.hp = some ob) → (∃ ob',lk cc st'.hp = some ob' ∧ ob'.bx = true ∧ ob'.jk js = obJ) →
   wpAny c.P .any ops (fun e a' w'=>Ok N X0 M w0 (K e) a' w') fuel listed a w := by
  intro fuel listed st' β a w hfu hsz hcl hl hs I1 I2 I3 I4 I5
  obtain ⟨ob5,g5,_,rfl⟩ := I5
  refine flow_tail (c := c) hAp hB fuel m listed _ β a w hfu (Nat.le_refl _) hsz hcl hl ((hs.jk (js := js) g5).less (st' := (base.final ((List.range m).map fun q=>(q,F q)) gs).setO cc (ob5.jk js)) (fun t x hx=>?_) (fun id ob hx=>?_)) hr
  ·obtain ⟨h1,h2⟩ := hide_fr hx
   have hG : ∀ d,(∃ j,j < m ∧ listed.getD j false = true ∧ d ∈ (fpAt fl j).gn) → x.kill d = x := fun d ⟨j,hj,_,hd⟩=>h2 d (hgs j hj d hd)
   rcases lk_app h1 with h1|h1
   ·have hm := lk_mem h1
    simp only [List.map_map,List.mem_map,List.mem_range,Function.comp_apply] at hm
    obtain ⟨k,hk,e⟩ := hm
    injection e with e1 e2
    subst e1 e2
    exact I2 k hk (by rw [hl k (by have := hB.le; omega)]; simpa using hk) hG
   ·exact I1 t x h1 hG
  ·by_cases hic : id = cc
   ·subst hic
    have e1 : lk id ((base.final ((List.range m).map fun q=>(q,F q)) gs).setO id (ob5.jk js)).hp = some (ob5.jk js):=by simp [St.setO,lk]
    rw [e1] at hx
    simp only [St.setO,lk,if_true]; exact hx
   simp only [St.setO,lk,if_neg hic,lk_er_ne hic] at hx ⊢
   obtain ⟨h1,h2⟩ := hide_hp hx
   have hG : ∀ d,(∃ j,j < m ∧ listed.getD j false = true ∧ d ∈ (fpAt fl j).gn) → d ≠ id ∧ ob.kill d = ob := fun d ⟨j,hj,_,hd⟩=>h2 d (hgs j hj d hd)
   rcases lk_app h1 with h1|h1
   ·obtain ⟨e,he,h3⟩ := lk_flatMap h1
    obtain ⟨k,hk,rfl⟩ := List.mem_map.1 he
    have hk := List.mem_range.1 hk
    exact I4 k hk (by rw [hl k (by have := hB.le; omega)]; simpa using hk) id ob h3 hG
   ·exact I3 id ob h1 hG
 intro fuel
 induction fuel with
 |zero =>
  intro listed st' β a w hsz hsuf hf hcl hs I1 I2 I3 I4 I5
  have hall : ∀ j,j < ops.size → listed.getD j false = true := fun j hj=>by
   have : (List.range ops.size).countP (fun j=>!listed.getD j false) = 0 := hf.symm
   rw [List.countP_eq_zero] at this
   have := this j (List.mem_range.2 hj)
   simpa using this
  have hm : m = ops.size := by
   rcases Nat.lt_or_ge m ops.size with h|h
   ·have := hall m h; rw [hsuf m (Nat.le_refl _) h] at this; cases this
   ·have := hB.le; omega
  exact hlast 0 listed st' β a w (by omega) hsz hcl (fun j hj=>by rw [hall j hj]; simp; omega) hs I1 I2 I3 I4 I5
 |succ fuel ih =>
  intro listed st' β a w hsz hsuf hf hcl hs I1 I2 I3 I4 I5
  have hgT : ∀ j,j < ops.size → listed.getD j true = listed.getD j false := fun j hj=>by
   rw [Array.getD_eq_getD_getElem?,Array.getD_eq_getD_getElem?,Array.getElem?_eq_getElem (by omega)]; rfl
  have hex : ∃ p,p < ops.size ∧ listed.getD p false = false := by
   have h1 : 0 < (List.range ops.size).countP (fun j=>!listed.getD j false):=by omega
   obtain ⟨p,hp,hq⟩ := List.countP_pos_iff.1 h1
   exact ⟨p,List.mem_range.1 hp,by simpa using hq⟩
  obtain ⟨p,⟨hp,hpf⟩,hmin⟩ := least hex
  have hrdy : p ∈ Region.ready .any ops listed := mem_ready'.2 ⟨hp,by rw [hgT p hp]; exact hpf,_,Array.getElem?_eq_getElem hp,deps_ready (i := p) (ops := ops) fun e he=>by
   have hlt := hB.back p _ (Array.getElem?_eq_getElem hp) e he
   cases hh : listed.getD e false with
   |true=>rfl
   |false=>have := hmin e ⟨by omega,hh⟩; omega⟩
  have hwhole : (∀ j,j < m → listed.getD j false = true) → wpAny c.P .any ops (fun e a' w'=>Ok N X0 M w0 (K e) a' w') (fuel + 1) listed a w := fun hbefore=>by
   have hl : ∀ j,j < ops.size → listed.getD j false = decide (j < m) := fun j hj=>by
    rcases Nat.lt_or_ge j m with h|h
    ·rw [hbefore j h]; simp [h]
    ·rw [hsuf j h hj]; simp; omega
   have hcount : fuel + 1 = ops.size - m := by
    rw [hf]
    have : (List.range ops.size).countP (fun j=>!listed.getD j false) = (List.range ops.size).countP (fun j=>decide (m ≤ j)) := by
     apply List.countP_congr
     intro j hj
     rw [hl j (List.mem_range.1 hj)]
     simp
    rw [this]
    have key : ∀ n,(List.range n).countP (fun j=>decide (m ≤ j)) = n - m := by
     intro n
     induction n with
     |zero=>simp
     |succ n ihn =>
      rw [List.range_succ,List.countP_append,ihn]
      by_cases hh : m ≤ n
      ·simp [hh]; omega
      ·simp [hh]; omega
    exact key _
   exact hlast (fuel + 1) listed st' β a w (by have := hB.le; omega) hsz hcl hl hs I1 I2 I3 I4 I5
  refine ⟨fun h=>(by rw [h] at hrdy; cases hrdy),fun i hi=>?_⟩
  obtain ⟨h1,h2,o,hoi,h3⟩ := mem_ready'.1 hi
  rw [hgT i h1] at h2
  rcases Nat.lt_or_ge i m with him|him
  ·-- one of the first m
   obtain ⟨hd,hlks,hok⟩ := hF i o him hoi
   have hanc := hcl.anc hB hoi h3
   have hGx : ∀ d,(∃ j,j < m ∧ listed.getD j false = true ∧ d ∈ (fpAt fl j).gn) → d ∈ (fpAt fl i).gx := fun d ⟨j,hj,hlj,hd⟩ =>
    hB.gx i j him hj (fun e=>by subst e; rw [h2] at hlj; cases hlj) (fun ha=>by have := hcl j (by have := hB.le; omega) hlj i ha; rw [h2] at this; cases this) d hd
   have hWf : ∀ t x,lk t (base.least ((List.range i).map fun q=>(q,F q)) (fpAt fl i)).fr = some x → lk t st'.fr = some x := fun t x hx=>by
    obtain ⟨e1,e2⟩ := hide_fr hx
    have hG : ∀ d,(∃ j,j < m ∧ listed.getD j false = true ∧ d ∈ (fpAt fl j).gn) → x.kill d = x := fun d hd=>e2 d (hGx d hd)
    rcases lk_app e1 with e1|e1
    ·have hm := lk_mem e1
     obtain ⟨e,he,e3⟩ := List.mem_map.1 hm
     obtain ⟨he1,he2⟩ := List.mem_filter.1 he
     obtain ⟨k,hk,rfl⟩ := List.mem_map.1 he1
     injection e3 with e4 e5
     subst e4 e5
     exact I2 k (by have := List.mem_range.1 hk; omega) (hanc k (List.contains_iff_mem.1 he2)) hG
    ·exact I1 t x e1 hG
   have hWh : ∀ id ob,lk id (base.least ((List.range i).map fun q=>(q,F q)) (fpAt fl i)).hp = some ob → lk id st'.hp = some ob := fun id ob hx=>by
    obtain ⟨e1,e2⟩ := hide_hp hx
    have hG : ∀ d,(∃ j,j < m ∧ listed.getD j false = true ∧ d ∈ (fpAt fl j).gn) → d ≠ id ∧ ob.kill d = ob := fun d hd=>e2 d (hGx d hd)
    rcases lk_app e1 with e1|e1
    ·obtain ⟨e,he,e3⟩ := lk_flatMap e1
     obtain ⟨he1,he2⟩ := List.mem_filter.1 he
     obtain ⟨k,hk,rfl⟩ := List.mem_map.1 he1
     exact I4 k (by have := List.mem_range.1 hk; omega) (hanc k (List.contains_iff_mem.1 he2)) id ob e3 hG
    ·exact I3 id ob e1 hG
   have hd' : st'.dlt c.tys c.C N ops o (F i).1 (F i).2 := dlt_mono (fun t ht=>by
    have := List.all_eq_true.1 hlks t (hB.looks i o him hoi t ht)
    obtain ⟨x,hx⟩ := Option.isSome_iff_exists.1 this
    unfold St.get
    rw [hx,hWf t x hx]) hWh hd
   have hst := dlt_sound (Q := fun e a' w'=>Ok N X0 M w0 (K e) a' w') hAp c.hty c.hC hs (ops := ops) hd'
   obtain ⟨k1,k2,k3,k4⟩ := hok
   have hids : (F i).2.ids = (fpAt fl i).mks ++ (fpAt fl i).gn:=by unfold Dl.ids; rw [k1,k2]
   have hmade : ∀ id,id ∉ (fpAt fl i).mks → lk id (F i).2.made = none := fun id hid=>lk_none (by rw [k2]; exact hid)
   have havk : ∀ k,k < m → k ≠ i → listed.getD k false = true → ∀ d ∈ (fpAt fl i).mks,d ∈ (fpAt fl k).av := fun k hk hne hlk d hd =>
    hB.av k i hk him (Ne.symm hne) (fun ha=>by have := hcl k (by have := hB.le; omega) hlk i ha; rw [h2] at this; cases this) d hd
   have hG' : ∀ {Q : Nat → Prop},(∀ d,(∃ j,j < m ∧ (listed.setIfInBounds i true).getD j false = true ∧ d ∈ (fpAt fl j).gn) → Q d) → (∀ d,(∃ j,j < m ∧ listed.getD j false = true ∧ d ∈ (fpAt fl j).gn) → Q d) ∧ ∀ d ∈ (fpAt fl i).gn,Q d := fun {Q} hq =>
    ⟨fun d ⟨j,hj,hlj,hd⟩=>hq d ⟨j,hj,by rw [getD_set _ _ _ _ (by omega)]; split <;> first|rfl|exact hlj,hd⟩,fun d hd=>hq d ⟨i,him,by rw [getD_set _ _ _ _ (by omega),if_pos rfl],hd⟩⟩
   have hnext : ∀ a' w',Ok N X0 M w0 (fun st2=>st2 = st'.dapp (F i).1 (F i).2) a' w' → wpAny c.P .any ops (fun e a' w'=>Ok N X0 M w0 (K e) a' w') fuel (listed.setIfInBounds i true) a' w' := fun a' w' hk=>by
    obtain ⟨st2,β',rfl,h5⟩ := hk
    refine ih _ _ β' a' w' (by simpa using hsz) (fun j hj hjn=>?_) ?_ (hcl.step hB hsz hoi h3) h5 (fun t x hx hG=>?_) (fun k hk hlk hG=>?_) (fun id ob hx hG=>?_) (fun k hk hlk id ob hx hG=>?_) ?_
    ·rw [getD_set _ _ _ _ (by omega),if_neg (by omega)]; exact hsuf j hj hjn
    ·have := count_set hsz h1 h2; omega
    ·obtain ⟨g1,g2⟩ := hG' hG
     obtain ⟨q1,q2⟩ := hb1 t x hx
     have hne : t ≠ (F i).1 := fun e=>q1 i him (by rw [hdst i him,e])
     simp only [St.dapp,lk,if_neg hne,lk_er_ne hne]
     refine killL_keep (fun d hd=>?_) (I1 t x hx g1)
     rw [hids] at hd
     rcases List.mem_append.1 hd with h|h
     ·exact q2 i him d h
     ·exact g2 d h
    ·obtain ⟨g1,g2⟩ := hG' hG
     by_cases hki : k = i
     ·subst hki; simp [St.dapp,lk]
     ·rw [getD_set _ _ _ _ (by omega),if_neg hki] at hlk
      have hne : (F k).1 ≠ (F i).1 := fun e=>hB.apart i k him hk (Ne.symm hki) (by rw [hdst i him,hdst k hk,e])
      simp only [St.dapp,lk,if_neg hne,lk_er_ne hne]
      refine killL_keep (fun d hd=>?_) (I2 k hk hlk g1)
      rw [hids] at hd
      rcases List.mem_append.1 hd with h|h
      ·have hks : k < ops.size:=by have := hB.le; omega
       exact refs_kill (havk k hk hki hlk d h) (hF k _ hk (Array.getElem?_eq_getElem hks)).2.2.2.2.1
      ·exact g2 d h
    ·obtain ⟨g1,g2⟩ := hG' hG
     have q := hb2 id ob hx i him
     have hnm : id ∉ (fpAt fl i).mks := fun hin=>(q id hin).1 rfl
     show lk id ((F i).2.made ++ _) = _
     rw [lk_append,hmade id hnm]
     refine killL_keepO (fun d hd=>?_) (I3 id ob hx g1)
     rw [hids] at hd
     rcases List.mem_append.1 hd with h|h
     ·exact q d h
     ·exact g2 d h
    ·obtain ⟨g1,g2⟩ := hG' hG
     show lk id ((F i).2.made ++ _) = _
     by_cases hki : k = i
     ·subst hki; rw [lk_append,hx]; rfl
     ·rw [getD_set _ _ _ _ (by omega),if_neg hki] at hlk
      have hks : k < ops.size:=by have := hB.le; omega
      have hokk := (hF k _ hk (Array.getElem?_eq_getElem hks)).2.2
      have hidk : id ∈ (fpAt fl k).mks:=by rw [← hokk.2.1]; exact List.mem_map.2 ⟨(id,ob),lk_mem hx,rfl⟩
      have hnm : id ∉ (fpAt fl i).mks := hB.mks i k him hk hki id hidk
      rw [lk_append,hmade id hnm]
      refine killL_keepO (fun d hd=>?_) (I4 k hk hlk id ob hx g1)
      rw [hids] at hd
      rcases List.mem_append.1 hd with h|h
      ·refine ⟨fun e=>hnm (e ▸ h),Ob.refs_kill (havk k hk hki hlk d h) ?_⟩
       have := List.all_eq_true.1 hokk.2.2.2 (id,ob) (lk_mem hx)
       simpa using this
      ·exact g2 d h
    ·obtain ⟨ob5,g5,g7,g6⟩ := I5
     have key : ∀ ids : List Nat,cc ∉ ids → (∀ d ∈ ids,d ∈ js) → ∃ ob',lk cc (st'.killL ids).hp = some ob' ∧ ob'.bx = true ∧ ob'.jk js = obJ := by
      intro ids
      induction ids with
      |nil=>exact fun _ _=>⟨ob5,g5,g7,g6⟩
      |cons d l ihl =>
       intro hn hj
       obtain ⟨o1,o2,o4,o3⟩ := ihl (fun h=>hn (List.mem_cons_of_mem _ h)) fun e he=>hj e (List.mem_cons_of_mem _ he)
       refine ⟨o1.kill d,?_,(Ob.jk_kill (hj d List.mem_cons_self) o4).2,by rw [(Ob.jk_kill (hj d List.mem_cons_self) o4).1]; exact o3⟩
       rw [show St.killL st' (d :: l) = (st'.killL l).kill d from rfl,lk_kill_ne (fun e=>hn (by rw [e]; exact List.mem_cons_self)),o2]; rfl
     obtain ⟨o1,o2,o4,o3⟩ := key ((fpAt fl i).mks ++ (fpAt fl i).gn) (fun h=>(List.mem_append.1 h).elim (hcc i him).1 (hcc i him).2) fun d hd=>hjs i him d (List.mem_append.1 hd)
     refine ⟨o1,?_,o4,o3⟩
     show lk cc ((F i).2.made ++ _) = _
     rw [lk_append,hmade cc (hcc i him).1,hids]; exact o2
   unfold wpOp
   rw [hoi]
   simp only
   split
   ·rename_i hw; rw [if_pos hw] at hst; exact .inl (Oper.wp_mono hnext hst)
   ·rename_i hw; rw [if_neg hw] at hst; exact hnext _ _ hst
  ·-- all of the first m have come up
   exact (hwhole fun j hj=>hcl.anc hB hoi h3 j (hB.tail i o him hoi j (by omega))).2 i hi
theorem WP.flowB (cc : Nat) {id : Nat} {l : List Oper} {st : St} (m : Nat) (fl : List Fp) (ds mks gs : List Nat) (hB : flowB l.toArray m fl = true)
  (hD : ((List.range m).all fun k=>match dstAt l.toArray k with|some d=>ds.contains d|none=>false) = true)
  (hM : ((List.range m).all fun k=>((fpAt fl k).mks.all fun d=>mks.contains d) && ((fpAt fl k).gn.all fun d=>gs.contains d)) = true) (hm : c.P.follows .mixedOrders = true) (hcc : (mks ++ gs).contains cc = false)
  (h : (st.clean ds mks).hasO cc fun cur=>cur.bx = true ∧ St.runG c.tys c.C N l.toArray fl (st.clean ds mks) (l.take m) 0 [] fun acc=>St.runR c.tys c.C N l.toArray (l.drop m) (((st.clean ds mks).final acc gs).setO cc (cur.jk (mks ++ gs))) (K .normal)) : WP c N X0 M w0 (.region id l.toArray true) st K := by
 intro hA β a w hs
 have hD0 := flowB_ok hB
 unfold St.hasO at h
 split at h
 case h_2=>exact h.elim
 case h_1 _ cur hcur =>
 obtain ⟨hbx,h⟩ := h
 obtain ⟨F,h1,h2⟩ := runF_acc _ _ _ (runF_of_runG _ _ _ h)
 have hlen : (l.take m).length = m := by
  have := hD0.le
  simp at this ⊢
  omega
 rw [hlen] at h1
 simp only [List.nil_append,Nat.zero_add] at h1 h2
 have hcl0 : ∀ t x,lk t (st.clean ds mks).fr = some x → lk t st.fr = some x ∧ t ∉ ds ∧ ∀ d ∈ mks,x.kill d = x := fun t x hx=>by
  obtain ⟨e1,e2⟩ := hide_fr hx
  obtain ⟨e3,e4⟩ := offK_lk e1
  exact ⟨e3,e4,e2⟩
 have hMk : ∀ k,k < m → (∀ d ∈ (fpAt fl k).mks,d ∈ mks) ∧ ∀ d ∈ (fpAt fl k).gn,d ∈ gs := fun k hk=>by
  have := List.all_eq_true.1 hM k (List.mem_range.2 hk)
  simp only [Bool.and_eq_true,List.all_eq_true] at this
  exact ⟨fun d hd=>List.contains_iff_mem.1 (this.1 d hd),fun d hd=>List.contains_iff_mem.1 (this.2 d hd)⟩
 refine wp_region_any hm (flow_headB (c := c) (K := K) (cc := cc) (obJ := cur.jk (mks ++ gs)) (js := mks ++ gs) (fun k hk=>?_) (fun k hk d hd=>?_) hA hD0 (base := st.clean ds mks) (F := F) (gs := gs) (fun k o hk ho=>?_) (fun t x hx=>⟨fun k hk e=>?_,fun k hk d hd=>(hcl0 t x hx).2.2 d ((hMk k hk).1 d hd)⟩) (fun t ob hx k hk d hd=>(hide_hp hx).2 d ((hMk k hk).1 d hd)) (fun k hk=>(hMk k hk).2) ?_
  l.toArray.size (Array.replicate l.toArray.size false) (st.clean ds mks) β a _ (by simp) (fun j _ hj=>?_) ?_ (fun b hb hl=>?_) ?_ (fun t x hx _=>hx) (fun k hk hl=>?_) (fun t ob hx _=>hx) (fun k hk hl=>?_) ⟨cur,hcur,hbx,rfl⟩)
 ·have hn : cc ∉ mks ++ gs := fun h=>by rw [List.contains_iff_mem.2 h] at hcc; cases hcc
  exact ⟨fun h=>hn (List.mem_append_left _ ((hMk k hk).1 cc h)),fun h=>hn (List.mem_append_right _ ((hMk k hk).2 cc h))⟩
 ·rcases hd with hd|hd
  ·exact List.mem_append_left _ ((hMk k hk).1 d hd)
  ·exact List.mem_append_right _ ((hMk k hk).2 d hd)
 ·have : (l.take m)[k]? = some o:=by rw [List.getElem?_take_of_lt hk]; simpa using ho
  exact h2 k o this
 ·have := List.all_eq_true.1 hD k (List.mem_range.2 hk)
  rw [e] at this
  exact (hcl0 t x hx).2.1 (List.contains_iff_mem.1 this)
 ·exact h1
 ·rw [Array.getD_eq_getD_getElem?,Array.getElem?_replicate]; split <;> rfl
 ·have : (List.range l.toArray.size).countP (fun j=>!(Array.replicate l.toArray.size false).getD j false) = (List.range l.toArray.size).countP (fun _=>true) := by
   apply List.countP_congr
   intro j hj
   rw [Array.getD_eq_getD_getElem?,Array.getElem?_replicate]; split <;> simp
  rw [this]; simp
 ·rw [Array.getD_eq_getD_getElem?,Array.getElem?_replicate] at hl
  split at hl <;> cases hl
 ·exact (hs.grow ((Go.RowKit.Below.refl _ _).drew) (fun b _ hb=>.inl hb) hs.x0).less (fun t x hx=>(hcl0 t x hx).1) (fun t ob hx=>(hide_hp hx).1)
 ·rw [Array.getD_eq_getD_getElem?,Array.getElem?_replicate] at hl
  split at hl <;> cases hl
 ·rw [Array.getD_eq_getD_getElem?,Array.getElem?_replicate] at hl
  split at hl <;> cases hl
end
end Go.Vc

namespace Go.Proofs.Ytjjbcoigaejoaaa
open Go.Vc
attribute [local irreducible] Go.Vc.WP
attribute [local go_sem] cx0_t cx0_c
def fl456db1da2d : List Go.Vc.Fp := [⟨[0],[],[25,26,31],[26,31,33,34,35,36],[],[]⟩,⟨[0],[],[26,31],[26,31,33,34,35,36],[],[]⟩,⟨[21],[1],[26,31],[26,31,33,34,35,36],[],[]⟩,⟨[22],[1,2],[26,31],[26,31,33,34,35,36],[],[]⟩,⟨[23],[1,2,3],[26,31],[26,31,33,34,35,36],[],[]⟩,⟨[24],[1,2,3,4],[26,31],[26,31,33,34,35,36],[],[]⟩,⟨[],[],[],[31,33,34,35,36],[],[26]⟩,⟨[0],[],[],[26,31,33,34,35,36],[],[]⟩,⟨[27],[7],[],[26,31,33,34,35,36],[],[]⟩,⟨[28],[7,8],[],[26,31,33,34,35,36],[],[]⟩,⟨[29],[7,8,9],[],[26,31,33,34,35,36],[],[]⟩,⟨[26,30],[6,7,8,9,10],[],[33,34,35,36],[26],[31]⟩,⟨[1],[],[26],[26,31,33,34,35,36],[],[]⟩,⟨[32],[12],[26],[26,31,34,35,36],[],[33]⟩,⟨[31,33],[6,7,8,9,10,11,12,13],[26],[35,36],[31],[34]⟩,⟨[34],[6,7,8,9,10,11,12,13,14],[26,31],[36],[],[35]⟩,⟨[25,35],[1,2,3,4,5,6,7,8,9,10,11,12,13,14,15],[26,31],[],[25],[36]⟩,⟨[],[0,1,2,3,4,5,6,7,8,9,10,11,12,13,14,15,16],[],[],[],[]⟩,⟨[],[0,1,2,3,4,5,6,7,8,9,10,11,12,13,14,15,16,17],[],[],[],[]⟩,⟨[],[0,1,2,3,4,5,6,7,8,9,10,11,12,13,14,15,16,17,18],[],[],[],[]⟩,⟨[],[0,1,2,3,4,5,6,7,8,9,10,11,12,13,14,15,16,17,18,19],[],[],[],[]⟩]
def fldecb57ae8e : List Go.Vc.Fp := [⟨[0],[],[26,31,34,35,800002],[26,31,33,34,35,36],[],[]⟩,⟨[0],[],[26,31,34],[26,31,33,34,35,36],[],[]⟩,⟨[21],[1],[26,31,34],[26,31,33,34,35,36],[],[]⟩,⟨[22],[1,2],[26,31,34],[26,31,33,34,35,36],[],[]⟩,⟨[23],[1,2,3],[26,31,34],[26,31,33,34,35,36],[],[]⟩,⟨[24],[1,2,3,4],[26,31,34],[26,31,33,34,35,36],[],[]⟩,⟨[],[],[],[31,33,34,35,36],[],[26]⟩,⟨[0],[],[],[26,31,33,34,35,36],[],[]⟩,⟨[27],[7],[],[26,31,33,34,35,36],[],[]⟩,⟨[28],[7,8],[],[26,31,33,34,35,36],[],[]⟩,⟨[29],[7,8,9],[],[26,31,33,34,35,36],[],[]⟩,⟨[26,30],[6,7,8,9,10],[],[33,34,35,36],[26],[31]⟩,⟨[1],[],[26],[26,31,33,34,35,36],[],[]⟩,⟨[32],[12],[26],[26,31,34,35,36],[],[33]⟩,⟨[31,33],[6,7,8,9,10,11,12,13],[26],[35,36],[31],[34]⟩,⟨[34],[6,7,8,9,10,11,12,13,14],[26,31],[36],[34],[35]⟩,⟨[25,35],[1,2,3,4,5,6,7,8,9,10,11,12,13,14,15],[26,31,34],[],[800002,35],[36]⟩,⟨[],[0,1,2,3,4,5,6,7,8,9,10,11,12,13,14,15,16],[],[],[],[]⟩,⟨[],[0,1,2,3,4,5,6,7,8,9,10,11,12,13,14,15,16,17],[],[],[],[]⟩,⟨[],[0,1,2,3,4,5,6,7,8,9,10,11,12,13,14,15,16,17,18],[],[],[],[]⟩,⟨[],[0,1,2,3,4,5,6,7,8,9,10,11,12,13,14,15,16,17,18,19],[],[],[],[]⟩]
attribute [local go_sem] fl456db1da2d fldecb57ae8e
attribute [local go_sem] decLine_enc decI_enc decVl_enc rs_eta headsBy innersBy llX lmX St.callX St.panOf St.callLG ctrs St.isX St.stepP runS retY St.fzS addL behind ghoK St.gho St.gh SV.flat St.hasO St.setO Ob.jk SV.jk Ob.bx
theorem rowI_ln {L : List Int} {r : List SV} (h : r ∈ L.map encI) : r.length = 1:=by obtain ⟨n,_,rfl⟩ := List.mem_map.1 h; rfl
theorem rowI_v {L : List Int} {a : Value} {row : List SV} {c : SV} (h : row ∈ L.map encI ++ [[.v a]]) (hc : c ∈ row) : ∃ x,c = SV.v x := by
 rcases List.mem_append.1 h with h|h
 ·obtain ⟨n,_,rfl⟩ := List.mem_map.1 h
  simp only [encI,List.mem_cons,List.not_mem_nil,or_false] at hc; exact ⟨_,hc⟩
 ·simp only [List.mem_cons,List.not_mem_nil,or_false] at h; subst h
  simp only [List.mem_cons,List.not_mem_nil,or_false] at hc; exact ⟨_,hc⟩
def obS (P : List Line) (lim : Nat) (s : RS) : List (Nat × Ob) := [(1000000,.box 74 [.sl 4 (P.map encLine),.v (.int .i64 (lim : Nat)),.own 900000,.own 900001,.v (.int .i64 0),.v (.int .i64 0),.own 900002]),(900000,.sl 3 1 (s.out.map encI)),(900001,.dp 36 1 (s.vis.map encVl)),(900002,.sl 3 1 (s.calls.map encI))]
def rbS (s : RS) : List (Nat × Ob) := [(800001,.sl 3 1 (s.out.map encI)),(800002,.dp 36 1 (s.vis.map encVl)),(800003,.sl 3 1 (s.calls.map encI))]
def kpS (P : List Line) (lim : Nat) (code : Int) : List (Nat × Ob) := [(1000000,.box 74 [.sl 4 (P.map encLine),.v (.int .i64 (lim : Nat)),.own 800001,.own 800002,.v (.int .i64 0),.v (.int .i64 code),.own 800003])]
abbrev RX := List Line × Nat × RS
def decS0 (obs : List (Nat × Ob)) : RX := match oC obs 1000000 with
 | [.sl _ r,.v (.int _ n),_,_,_,_,_]=>(decLine r,n.toNat,⟨decI (oR obs 900000),decVl (oD obs 900001),decI (oR obs 900002)⟩)
 | _=>([],0,⟨[],[],[]⟩)
attribute [local go_sem] obS rbS kpS decS0 yen
def kVisS : Ctx := yen [0] (fun args obs=>(decS0 obs,(aI args 1).toNat)) (fun x=>[.ptr 1000000 0 0 0,.v (.int .i64 (x.2 : Nat))]) (fun x=>obS x.1.1 x.1.2.1 x.1.2.2) (fun x=>RsOk x.1.2.1 x.1.2.2) (fun _=>none)
 (fun x=>.v (.bool (decide (¬ x.1.2.1 ≤ x.1.2.2.vis.length)))) (fun x=>rbS (if x.1.2.1 ≤ x.1.2.2.vis.length then x.1.2.2 else visit1 x.1.2.2 x.2)) (fun x=>kpS x.1.1 x.1.2.1 (if x.1.2.1 ≤ x.1.2.2.vis.length then 1 else 0))
section
noncomputable def cxVisS := mkX [] (COk.nil _)
theorem cxVisS_t : cxVisS.tys = tys := rfl
theorem cxVisS_c : cxVisS.C = [] := rfl
attribute [local go_sem] cxVisS_t cxVisS_c
theorem cVisS : Cy Try.prog 68 kVisS := by
 refine Cy.yen Try.func68 (by kernel_rfl) rfl fun x hx=>?_
 obtain ⟨⟨P,lim,s⟩,k⟩ := x
 simp only at hx ⊢
 obtain ⟨h1,h2,h3,h4⟩ := hx
 obtain ⟨so,sv,sc⟩ := s
 simp only at h2 h3 h4 ⊢
 refine HoldsY.go (c := cxVisS) Try.func68 rfl Try.results68 Try.ntmps68 (by omega) (by simp) ?_ ?_ ?_
 rotate_right
 intro X0 M w0
 ·refine zP [] [(900000,800001),(900001,800002),(900002,800003)] rfl ?_
  simp only [go_sem]
  by_cases hl : lim ≤ sv.length
  ·have hle : (sv.length : Int) = (lim : Nat):=by omega
   simp only [if_pos hl,decide_not,decide_eq_true hl]
   (repeat' (first|apply zS|apply zB|((first|apply zR|apply zC|apply zT|apply zE|apply zK| refine zF 17 fl456db1da2d [20,21,22,23,24,25,26,27,28,29,30,31,32,33,34,35,36] [26,31,33,34,35,36] [25,26,31] (by decide +kernel) (by kernel_rfl) (by kernel_rfl) (by kernel_rfl) ?_|refine zD 11 (by decide +kernel) (by kernel_rfl) ?_); simp only [go_sem,hle])|apply And.intro|intro _))
   all_goals first|omega|rfl|skip
  ·have hle : ¬ (sv.length : Int) = (lim : Nat):=by omega
   simp only [if_neg hl,decide_not,decide_eq_false hl]
   (repeat' ((fail_if_success refine WP.atReg (b := 5) ?_); first|apply zS|apply zB|((first|refine WP.flowB 1000000 17 [⟨[0],[],[26,31,34,35,800002],[26,31,33,34,35,36],[],[]⟩,⟨[0],[],[26,31,34],[26,31,33,34,35,36],[],[]⟩,⟨[21],[1],[26,31,34],[26,31,33,34,35,36],[],[]⟩,⟨[22],[1,2],[26,31,34],[26,31,33,34,35,36],[],[]⟩,⟨[23],[1,2,3],[26,31,34],[26,31,33,34,35,36],[],[]⟩,⟨[24],[1,2,3,4],[26,31,34],[26,31,33,34,35,36],[],[]⟩,⟨[],[],[],[31,33,34,35,36],[],[26]⟩,⟨[0],[],[],[26,31,33,34,35,36],[],[]⟩,⟨[27],[7],[],[26,31,33,34,35,36],[],[]⟩,⟨[28],[7,8],[],[26,31,33,34,35,36],[],[]⟩,⟨[29],[7,8,9],[],[26,31,33,34,35,36],[],[]⟩,⟨[26,30],[6,7,8,9,10],[],[33,34,35,36],[26],[31]⟩,⟨[1],[],[26],[26,31,33,34,35,36],[],[]⟩,⟨[32],[12],[26],[26,31,34,35,36],[],[33]⟩,⟨[31,33],[6,7,8,9,10,11,12,13],[26],[35,36],[31],[34]⟩,⟨[34],[6,7,8,9,10,11,12,13,14],[26,31],[36],[34],[35]⟩,⟨[25,35],[1,2,3,4,5,6,7,8,9,10,11,12,13,14,15],[26,31,34],[],[800002,35],[36]⟩,⟨[],[0,1,2,3,4,5,6,7,8,9,10,11,12,13,14,15,16],[],[],[],[]⟩,⟨[],[0,1,2,3,4,5,6,7,8,9,10,11,12,13,14,15,16,17],[],[],[],[]⟩,⟨[],[0,1,2,3,4,5,6,7,8,9,10,11,12,13,14,15,16,17,18],[],[],[],[]⟩,⟨[],[0,1,2,3,4,5,6,7,8,9,10,11,12,13,14,15,16,17,18,19],[],[],[],[]⟩] [20,21,22,23,24,25,26,27,28,29,30,31,32,33,34,35,36] [26,31,33,34,35,36] [26,31,34,35,800002] (by decide +kernel) (by kernel_rfl) (by kernel_rfl) (by kernel_rfl) (by decide) ?_); simp only [go_sem,hle])|((first|apply zR|apply zC|apply zT|apply zE|apply zK| refine zF 17 fldecb57ae8e [20,21,22,23,24,25,26,27,28,29,30,31,32,33,34,35,36] [26,31,33,34,35,36] [26,31,34,35,800002] (by decide +kernel) (by kernel_rfl) (by kernel_rfl) (by kernel_rfl) ?_|refine zD 11 (by decide +kernel) (by kernel_rfl) ?_); simp only [go_sem,hle])|apply And.intro|intro _))
   all_goals first|omega|rfl|exact rowI_ln ‹_›|exact rowI_v (by assumption) (by assumption)|skip
   refine zP [] [(36,800002)] rfl ?_
   (repeat' (first|apply zS|apply zB|((first|apply zR|apply zC|apply zT|apply zE|apply zK| refine zF 17 fl456db1da2d [20,21,22,23,24,25,26,27,28,29,30,31,32,33,34,35,36] [26,31,33,34,35,36] [25,26,31] (by decide +kernel) (by kernel_rfl) (by kernel_rfl) (by kernel_rfl) ?_|refine zD 11 (by decide +kernel) (by kernel_rfl) ?_); simp only [go_sem,visit1,List.map_append,encVl,encI])|apply And.intro|intro _))
   all_goals first|omega|rfl|skip
 ·rfl
 ·intro h; cases h
end
end Go.Proofs.Ytjjbcoigaejoaaa

namespace Go.Proofs.Ytjjbcoigaejoaaa
open Go.Vc
attribute [local irreducible] Go.Vc.WP
attribute [local go_sem] cx0_t cx0_c
attribute [local go_sem] decS_enc decTok_enc decLine_enc oneLine_f line_eta St.fzS addL behind St.runO St.stepO
attribute [local go_sem] aPk
section
noncomputable def cxOpnS := mkX [] (COk.nil _)
theorem cxOpnS_t : cxOpnS.tys = tys := rfl
theorem cxOpnS_c : cxOpnS.C = [] := rfl
attribute [local go_sem] cxOpnS_t cxOpnS_c
theorem cOpensS : Cn Try.prog 97 kOpens := by
 refine Cn.pur Try.func97 (by kernel_rfl) rfl fun d x hx=>?_
 rename Int=>k
 refine Holds.go (c := cxOpnS) Try.func97 rfl Try.results97 Try.ntmps97 (by omega) (by simp) rfl ?_
 intro X0 w0
 by_cases h0 : k = 0
 ·have ho : opensK k = true:=by rw [h0]; rfl
  rw [ho]
  (repeat' (first|apply zS|apply zB|((first|apply zR|apply zC|apply zT|apply zE|apply zK);simp only [go_sem,h0])|apply And.intro|intro _))
  all_goals first|omega|rfl|skip
 by_cases h3 : k = 3
 ·have ho : opensK k = true:=by rw [h3]; rfl
  rw [ho]
  (repeat' (first|apply zS|apply zB|((first|apply zR|apply zC|apply zT|apply zE|apply zK);simp only [go_sem,h3])|apply And.intro|intro _))
  all_goals first|omega|rfl|skip
 by_cases h5 : k = 5
 ·have ho : opensK k = true:=by rw [h5]; rfl
  rw [ho]
  (repeat' (first|apply zS|apply zB|((first|apply zR|apply zC|apply zT|apply zE|apply zK);simp only [go_sem,h5])|apply And.intro|intro _))
  all_goals first|omega|rfl|skip
 rw [opensK_f h0 h3 h5]
 (repeat' (first|apply zS|apply zB|((first|apply zR|apply zC|apply zT|apply zE|apply zK);simp only [go_sem,h0,h3,h5])|apply And.intro|intro _))
 all_goals first|omega|rfl|(simp [h0,h3,h5]; done)|skip
end
section
noncomputable def cxBlkS := mkX [(97,kOpens)] (COk.cons cOpensS (COk.nil _))
theorem cxBlkS_t : cxBlkS.tys = tys := rfl
theorem cxBlkS_c : cxBlkS.C = [(97,kOpens)] := rfl
attribute [local go_sem] cxBlkS_t cxBlkS_c kOpens
set_option maxHeartbeats 4000000
theorem cBlkS : Cn Try.prog 64 kBlk := by
 refine Cn.pur Try.func64 (by kernel_rfl) rfl fun d x hx=>?_
 obtain ⟨P,k⟩ := x
 simp only at hx ⊢
 refine Holds.go (c := cxBlkS) Try.func64 rfl Try.results64 Try.ntmps64 (by omega) (by simp) rfl ?_
 intro X0 w0
 have lk0 : lk 0 tys = none := rfl
 by_cases hk0 : 0 ≤ k
 rotate_left
 ·rw [endOf_out (P := P) fun q=>hk0 q.1]
  have hk : k < 0:=by omega
  (repeat' (first|apply zS|apply zB|((first|refine WP.regionO (id := 1) ?_); simp only [go_sem,hk])|((first|apply zR|apply zC|apply zT|apply zE|apply zK);simp only [go_sem,hk])|apply And.intro|intro _))
  all_goals first|omega|rfl|skip
 by_cases hk1 : k < P.length
 rotate_left
 ·rw [endOf_out (P := P) fun q=>hk1 q.2]
  have hk : (P.length : Int) ≤ k:=by omega
  have hkm : ¬ k < 0:=by omega
  have hr0 : Go.Vc.rowAt (P.map encLine) k.toNat = [] := by
   unfold Go.Vc.rowAt
   rw [List.getElem?_eq_none (by rw [List.length_map]; omega)]; rfl
  (repeat' (first|apply zS|apply zB|((first|refine WP.regionO (id := 1) ?_); simp only [go_sem,hk0,hk,hkm,hr0])|((first|apply zR|apply zC|apply zT|apply zE|apply zK);simp only [go_sem,hk0,hk,hkm,hr0])|apply And.intro|intro _))
  all_goals first|omega|rfl|skip
 obtain ⟨n,rfl⟩ := Int.eq_ofNat_of_zero_le hk0
 have hn : n < P.length:=by omega
 have h1 := rowAt_map encLine P n hn
 have b1 : ¬ (P.length : Int) ≤ (n : Int):=by omega
 have b0 : ¬ (n : Int) < 0:=by omega
 rw [endOf_in hn]
 cases ho : opensK P[n].kind with
 |false =>
  rw [if_neg (by simp)]
  (repeat' (first|apply zS|apply zB|((first|apply zR|apply zC|apply zT|apply zE|apply zK);simp only [go_sem,h1,encLine,ho,b0,b1])|apply And.intro|intro _))
  all_goals first|omega|rfl|skip
 |true =>
  rw [if_pos rfl]
  (repeat' (first|apply zS|apply zB|((first|apply zR|apply zC|apply zT|apply zE|apply zK);simp only [go_sem,h1,encLine,ho,b0,b1])|apply And.intro|intro _))
  all_goals first|omega|skip
  generalize hE : endFrom (P.drop n) n 0 = E
  refine zL (fun q : Nat × Int=>⟨[(0,.sl 4 (P.map encLine)),(5,.v (.int .i64 q.2)),(6,.v (.int .i64 q.1))],[]⟩)
   (fun q=>q.1 ≤ P.length ∧ -(q.1 : Int) ≤ q.2 ∧ q.2 ≤ q.1 ∧ endFrom (P.drop q.1) q.1 q.2 = E) (fun q=>P.length - q.1) (n,0) ⟨by omega,by simp only; omega,by simp only; omega,hE⟩ ?_ ?_
  ·(simp only [go_sem] <;> (first|(and_intros <;> rfl)|simp))
  rintro ⟨i,o⟩ ⟨hi,ho1,ho2,hF⟩
  simp only at hi ho1 ho2 hF ⊢
  by_cases hlt : i < P.length
  ·have hli : (i : Int) < P.length:=by omega
   have h2 := rowAt_map encLine P i hlt
   rw [endFrom_succ hlt] at hF
   rw [encLine] at h2
   generalize P[i].kind = kk at h2 hF
   cases hop : opensK kk with
   |true =>
    have h7 : ¬ kk = 7 := fun e=>by rw [e] at hop; cases hop
    rw [delta_open hop] at hF
    by_cases hz : o + 1 = 0
    ·rw [if_pos hz] at hF
     subst hF
     (repeat' (first|apply zS|apply zB|((first|apply zR|apply zC|apply zT|apply zE|apply zK);simp only [go_sem,hli,h2,hop,h7,hz])|apply And.intro|intro _))
     all_goals first|omega|rfl|skip
    ·rw [if_neg hz] at hF
     (repeat' (first|apply zS|apply zB|((first|apply zR|apply zC|apply zT|apply zE|apply zK);simp only [go_sem,hli,h2,hop,h7,hz])|apply And.intro|intro _))
     all_goals first|omega|exact ⟨(i + 1,o + 1),⟨by simp only; omega,by simp only; omega,by simp only; omega,hF⟩,by simp only; omega,by (first|(and_intros <;> rfl)|simp)⟩|skip
   |false =>
    by_cases h7 : kk = 7
    ·subst h7
     rw [delta_end] at hF
     by_cases hz : o - 1 = 0
     ·rw [if_pos (by omega)] at hF
      subst hF
      (repeat' (first|apply zS|apply zB|((first|apply zR|apply zC|apply zT|apply zE|apply zK);simp only [go_sem,hli,h2,hop,hz])|apply And.intro|intro _))
      all_goals first|omega|rfl|skip
     ·rw [if_neg (by omega)] at hF
      (repeat' (first|apply zS|apply zB|((first|apply zR|apply zC|apply zT|apply zE|apply zK);simp only [go_sem,hli,h2,hop,hz])|apply And.intro|intro _))
      all_goals first|omega|exact ⟨(i + 1,o - 1),⟨by simp only; omega,by simp only; omega,by simp only; omega,hF⟩,by simp only; omega,by (first|(and_intros <;> rfl)|simp)⟩|skip
    ·rw [delta_else hop h7,Int.add_zero] at hF
     by_cases hz : o = 0
     ·rw [if_pos hz] at hF
      subst hF
      (repeat' (first|apply zS|apply zB|((first|apply zR|apply zC|apply zT|apply zE|apply zK);simp only [go_sem,hli,h2,hop,h7,hz])|apply And.intro|intro _))
      all_goals first|omega|rfl|skip
     ·rw [if_neg hz] at hF
      (repeat' (first|apply zS|apply zB|((first|apply zR|apply zC|apply zT|apply zE|apply zK);simp only [go_sem,hli,h2,hop,h7,hz])|apply And.intro|intro _))
      all_goals first|omega|exact ⟨(i + 1,o),⟨by simp only; omega,by simp only; omega,by simp only; omega,hF⟩,by simp only; omega,by (first|(and_intros <;> rfl)|simp)⟩|skip
  ·have hge : ¬ (i : Int) < P.length:=by omega
   rw [endFrom_end hlt] at hF
   subst hF
   (repeat' (first|apply zS|apply zB|((first|apply zR|apply zC|apply zT|apply zE|apply zK);simp only [go_sem,hge])|apply And.intro|intro _))
   all_goals first|omega|rfl|skip
end
section
noncomputable def cxElsBS := mkX [(64,kBlk)] (COk.cons cBlkS (COk.nil _))
theorem cxElsBS_t : cxElsBS.tys = tys := rfl
theorem cxElsBS_c : cxElsBS.C = [(64,kBlk)] := rfl
attribute [local go_sem] cxElsBS_t cxElsBS_c kBlk
set_option maxHeartbeats 4000000
theorem cElseS : Cn Try.prog 67 kElse := by
 refine Cn.pur Try.func67 (by kernel_rfl) rfl fun d x hx=>?_
 obtain ⟨P,k⟩ := x
 simp only at hx ⊢
 refine Holds.go (c := cxElsBS) Try.func67 rfl Try.results67 Try.ntmps67 (by omega) (by simp) rfl ?_
 intro X0 w0
 have lk0 : lk 0 tys = none := rfl
 by_cases hneg : endOf P k < 0
 ·rw [elseOf_neg hneg]
  (repeat' (first|apply zS|apply zB|((first|refine WP.regionO (id := 2) ?_); simp only [go_sem,hneg])|((first|apply zR|apply zC|apply zT|apply zE|apply zK);simp only [go_sem,hneg])|apply And.intro|intro _))
  all_goals first|omega|rfl|skip
 have hin := endOf_opens (P := P) (k := k) (by omega)
 obtain ⟨n,rfl⟩ := Int.eq_ofNat_of_zero_le hin.1
 have hn : n < P.length:=by omega
 obtain ⟨e,he,hE,hne⟩ := endOf_nn (P := P) (k := n) (by omega)
 have hoK := hin.2.2
 rw [Int.toNat_natCast] at hoK
 have hel := hE.lt
 have h1 := rowAt_map encLine P n hn
 have he0 : ¬ (e : Int) < 0:=by omega
 by_cases h3 : P[n].kind = 3
 rotate_left
 ·rw [elseOf_kd hn h3]
  (repeat' (first|apply zS|apply zB|((first|apply zR|apply zC|apply zT|apply zE|apply zK);simp only [go_sem,h1,encLine,h3,he,he0])|apply And.intro|intro _))
  all_goals first|omega|rfl|skip
 rw [elseOf_go hn h3 he]
 (repeat' (first|apply zS|apply zB|((first|apply zR|apply zC|apply zT|apply zE|apply zK);simp only [go_sem,h1,encLine,h3,he,he0])|apply And.intro|intro _))
 all_goals first|omega|skip
 generalize hG : elseGo P e (n + 1) = G
 refine zL (fun i : Nat=>⟨[(0,.sl 4 (P.map encLine)),(5,.v (.int .i64 e)),(6,.v (.int .i64 i))],[]⟩)
  (fun i=>n < i ∧ i ≤ P.length ∧ elseGo P e i = G) (fun i=>P.length + 1 - i) (n + 1) ⟨by omega,by omega,hG⟩ ?_ ?_
 ·(simp only [go_sem] <;> (first|(and_intros <;> rfl)|simp))
 rintro i ⟨hi0,hi1,hF⟩
 by_cases hlt : i < e
 ·have hli : (i : Int) < (e : Int):=by omega
  have hiP : i < P.length:=by omega
  have h2 := rowAt_map encLine P i hiP
  rw [encLine] at h2
  have hkd := kd_lt hiP
  generalize P[i].kind = kk at h2 hkd
  by_cases h4 : kk = 4
  ·subst h4
   rw [elseGo_hit hlt hkd] at hF
   subst hF
   (repeat' (first|apply zS|apply zB|((first|apply zR|apply zC|apply zT|apply zE|apply zK);simp only [go_sem,hli,h2])|apply And.intro|intro _))
   all_goals first|omega|rfl|skip
  ·by_cases h35 : kk = 3 ∨ kk = 5
   ·have hopi : opensK (kd P i) = true := opensK_iff.2 (by rw [hkd]; omega)
    obtain ⟨e2,g1,g2,g3,g4⟩ := hE.nest hoK hi0 hlt hopi
    rw [elseGo_skip hlt (by rw [hkd]; exact h35) (by rw [g1]; omega),g1,Int.toNat_natCast] at hF
    have g5 : (0 : Int) ≤ (e2 : Int):=by omega
    rcases h35 with h35|h35
    ·subst h35
     (repeat' (first|apply zS|apply zB|((first|apply zR|apply zC|apply zT|apply zE|apply zK);simp only [go_sem,hli,h2,g1,g5])|apply And.intro|intro _))
     all_goals first|omega|exact ⟨e2 + 1,⟨by omega,by omega,hF⟩,by omega,by (first|(and_intros <;> rfl)|simp)⟩|skip
    ·subst h35
     (repeat' (first|apply zS|apply zB|((first|apply zR|apply zC|apply zT|apply zE|apply zK);simp only [go_sem,hli,h2,g1,g5])|apply And.intro|intro _))
     all_goals first|omega|exact ⟨e2 + 1,⟨by omega,by omega,hF⟩,by omega,by (first|(and_intros <;> rfl)|simp)⟩|skip
   ·rw [elseGo_next hlt (by rw [hkd]; exact h4) (fun q=>h35 (by rw [← hkd]; exact q.1))] at hF
    have n3 : ¬ kk = 3 := fun e=>h35 (.inl e)
    have n5 : ¬ kk = 5 := fun e=>h35 (.inr e)
    (repeat' (first|apply zS|apply zB|((first|apply zR|apply zC|apply zT|apply zE|apply zK);simp only [go_sem,hli,h2,h4,n3,n5])|apply And.intro|intro _))
    all_goals first|omega|exact ⟨i + 1,⟨by omega,by omega,hF⟩,by omega,by (first|(and_intros <;> rfl)|simp)⟩|skip
 ·have hge : ¬ (i : Int) < (e : Int):=by omega
  rw [elseGo_end hlt] at hF
  subst hF
  (repeat' (first|apply zS|apply zB|((first|apply zR|apply zC|apply zT|apply zE|apply zK);simp only [go_sem,hge])|apply And.intro|intro _))
  all_goals first|omega|rfl|skip
end
section
noncomputable def cxFunsS := mkX [] (COk.nil _)
theorem cxFunsS_t : cxFunsS.tys = tys := rfl
theorem cxFunsS_c : cxFunsS.C = [] := rfl
attribute [local go_sem] cxFunsS_t cxFunsS_c
theorem cFunsS : Cn Try.prog 61 kFuns := by
 refine Cn.pur Try.func61 (by kernel_rfl) rfl fun d x hx=>?_
 rename List Line=>P
 refine Holds.go (c := cxFunsS) Try.func61 rfl Try.results61 Try.ntmps61 (by omega) (by simp) rfl ?_
 intro X0 w0
 (repeat' (first|apply zS|apply zB|((first|apply zR|apply zC|apply zT|apply zE|apply zK);simp only [go_sem])|apply And.intro|intro _))
 all_goals first|omega|skip
 refine zL (fun i : Nat=>⟨[(0,.sl 4 (P.map encLine)),(3,.own 5),(4,.v (.int .i64 i))],[(5,.sl 3 1 ((funs P i).map encI))]⟩) (fun i=>i ≤ P.length) (fun i=>P.length - i) 0 (by simp) ?_ ?_
 ·(simp only [go_sem] <;> (first|(and_intros <;> rfl)|simp))
 intro i hi
 have hfl := funs_len P i
 have hfs := funs_succ P i
 by_cases hlt : i < P.length
 ·have hli : (i : Int) < P.length:=by omega
  have h2 := rowAt_map encLine P i hlt
  rw [encLine] at h2
  rw [kd_lt hlt] at hfs
  generalize P[i].kind = kk at h2 hfs
  by_cases h0 : kk = 0
  ·rw [if_pos h0] at hfs
   (repeat' (first|apply zS|apply zB|((first|apply zR|apply zC|apply zT|apply zE|apply zK);simp only [go_sem,hli,h2,h0])|apply And.intro|intro _))
   all_goals first|omega|exact ⟨i + 1,by omega,by omega,by rw [hfs,List.map_append]; (first|(and_intros <;> rfl)|simp)⟩|skip
  ·rw [if_neg h0,List.append_nil] at hfs
   (repeat' (first|apply zS|apply zB|((first|apply zR|apply zC|apply zT|apply zE|apply zK);simp only [go_sem,hli,h2,h0])|apply And.intro|intro _))
   all_goals first|omega|exact ⟨i + 1,by omega,by omega,by rw [hfs]; (first|(and_intros <;> rfl)|simp)⟩|skip
 ·have hge : ¬ (i : Int) < P.length:=by omega
  obtain rfl : i = P.length:=by omega
  (repeat' (first|apply zS|apply zB|((first|apply zR|apply zC|apply zT|apply zE|apply zK);simp only [go_sem,hge])|apply And.intro|intro _))
  all_goals first|omega|rfl|skip
theorem cFindS : Cn Try.prog 63 kFind := by
 refine Cn.pur Try.func63 (by kernel_rfl) rfl fun d x hx=>?_
 obtain ⟨P,s⟩ := x
 simp only at hx ⊢
 refine Holds.go (c := cxFunsS) Try.func63 rfl Try.results63 Try.ntmps63 (by omega) (by simp) rfl ?_
 intro X0 w0
 (repeat' (first|apply zS|apply zB|((first|apply zR|apply zC|apply zT|apply zE|apply zK);simp only [go_sem])|apply And.intro|intro _))
 all_goals first|omega|skip
 refine zL (fun i : Nat=>⟨[(0,.sl 4 (P.map encLine)),(1,.v (.string s)),(5,.v (.int .i64 i))],[]⟩) (fun k=>k ≤ P.length ∧ ∀ i (hi : i < P.length),i < k → isFn s P[i] = false) (fun i=>P.length - i) 0 (by simp) ?_ ?_
 ·(simp only [go_sem] <;> (first|(and_intros <;> rfl)|simp))
 rintro k ⟨hk,hf⟩
 by_cases hlt : k < P.length
 ·have hli : (k : Int) < P.length:=by omega
  have h2 := rowAt_map encLine P k hlt
  rw [encLine] at h2
  have hit : P[k].kind = 0 → P[k].name = s → findFn P s = k := fun a b=>firstIdx_hit hlt hf (by simp [isFn,a,b])
  have hno : ¬ (P[k].kind = 0 ∧ P[k].name = s) → ∀ i (hi : i < P.length),i < k + 1 → isFn s P[i] = false := fun q i hi hik=>by
   rcases Nat.lt_or_ge i k with h|h
   ·exact hf i hi h
   ·have : i = k:=by omega
    subst this
    cases hb : isFn s P[i] with
    |false=>rfl
    |true=>exact absurd (by simpa [isFn] using hb) q
  generalize P[k].kind = kk at h2 hit hno
  generalize P[k].name = nn at h2 hit hno
  by_cases h0 : kk = 0
  ·by_cases hs : nn = s
   ·rw [hit h0 hs]
    (repeat' (first|apply zS|apply zB|((first|apply zR|apply zC|apply zT|apply zE|apply zK);simp only [go_sem,hli,h2,h0,hs])|apply And.intro|intro _))
    all_goals first|omega|rfl|skip
   ·have hnx := hno fun q=>hs q.2
    (repeat' (first|apply zS|apply zB|((first|apply zR|apply zC|apply zT|apply zE|apply zK);simp only [go_sem,hli,h2,h0,hs])|apply And.intro|intro _))
    all_goals first|omega|exact ⟨k + 1,⟨by omega,hnx⟩,by omega,by (first|(and_intros <;> rfl)|simp)⟩|skip
  ·have hnx := hno fun q=>h0 q.1
   (repeat' (first|apply zS|apply zB|((first|apply zR|apply zC|apply zT|apply zE|apply zK);simp only [go_sem,hli,h2,h0])|apply And.intro|intro _))
   all_goals first|omega|exact ⟨k + 1,⟨by omega,hnx⟩,by omega,by (first|(and_intros <;> rfl)|simp)⟩|skip
 ·have hge : ¬ (k : Int) < P.length:=by omega
  rw [show findFn P s = -1 from firstIdx_none fun i hi=>hf i hi (by omega)]
  (repeat' (first|apply zS|apply zB|((first|apply zR|apply zC|apply zT|apply zE|apply zK);simp only [go_sem,hge])|apply And.intro|intro _))
  all_goals first|omega|rfl|skip
end
end Go.Proofs.Ytjjbcoigaejoaaa

namespace Go.Proofs.Ytjjbcoigaejoaaa
open Go.Vc
attribute [local irreducible] Go.Vc.WP
attribute [local go_sem] cx0_t cx0_c
attribute [local go_sem] decS_enc decTok_enc decLine_enc oneLine_f line_eta oneTok_f aPk St.fzS addL behind St.runO St.stepO
section
attribute [local irreducible] shLine
noncomputable def cxLclS := mkX [(64,kBlk),(70,kIdxS)] (COk.cons cBlkS (COk.cons cIdxSS (COk.nil _)))
theorem cxLclS_t : cxLclS.tys = tys := rfl
theorem cxLclS_c : cxLclS.C = [(64,kBlk),(70,kIdxS)] := rfl
attribute [local go_sem] cxLclS_t cxLclS_c kBlk kIdxS
set_option maxHeartbeats 8000000
theorem cLclS : Cn Try.prog 66 kLcl := by
 refine Cn.pur Try.func66 (by kernel_rfl) rfl fun d x hx=>?_
 obtain ⟨P,k⟩ := x
 obtain ⟨hx,hsh⟩ := hx
 simp only at hx hsh ⊢
 refine Holds.go (c := cxLclS) Try.func66 rfl Try.results66 Try.ntmps66 (by omega) (by simp) rfl ?_
 intro X0 w0
 have lk0 : lk 0 tys = none := rfl
 by_cases hneg : endOf P k < 0
 ·rw [localsOf_neg hneg]
  (repeat' (first|apply zS|apply zB|((first|refine WP.regionO (id := 2) ?_); simp only [go_sem,hneg])|((first|apply zR|apply zC|apply zT|apply zE|apply zK);simp only [go_sem,hneg])|apply And.intro|intro _))
  all_goals first|omega|rfl|exact ⟨_,_,rfl⟩|exact ⟨_,_,_,rfl⟩|skip
 have hin := endOf_opens (P := P) (k := k) (by omega)
 obtain ⟨n,rfl⟩ := Int.eq_ofNat_of_zero_le hin.1
 have hn : n < P.length:=by omega
 obtain ⟨e,he,hE,hne⟩ := endOf_nn (P := P) (k := n) (by omega)
 have hel := hE.lt
 have h1 := rowAt_map encLine P n hn
 have he0 : ¬ (e : Int) < 0:=by omega
 by_cases h3 : P[n].kind = 0
 rotate_left
 ·rw [localsOf_kd hn h3]
  (repeat' (first|apply zS|apply zB|((first|apply zR|apply zC|apply zT|apply zE|apply zK);simp only [go_sem,h1,encLine,h3,he,he0])|apply And.intro|intro _))
  all_goals first|omega|rfl|exact ⟨_,_,rfl⟩|exact ⟨_,_,_,rfl⟩|skip
 rw [localsOf_go hn h3 he]
 have hsn : P[n].args.length ≤ 1048576:=by have := hsh _ (List.getElem_mem hn); unfold shLine at this; exact this.1
 generalize hA0 : P[n].args = A0 at hsn
 rw [encLine,hA0] at h1
 have hnn : (0 : Nat) + A0.length = A0.length:=by omega
 (repeat' (first|apply zS|apply zB|((first|apply zR|apply zC|apply zT|apply zE|apply zK);simp only [go_sem,h1,h3,he,he0])|apply And.intro|intro _))
 all_goals first|omega|exact rowS_ln ‹_›|skip
 generalize hG : locGo P (e - n) n A0 = G
 refine zL (fun s : Nat × List ByteArray=>⟨[(0,.sl 4 (P.map encLine)),(5,.v (.int .i64 e)),(6,.own 22),(7,.v (.int .i64 s.1))],[(22,.sl 9 1 (s.2.map encS))]⟩)
  (fun s=>n ≤ s.1 ∧ s.1 ≤ e ∧ s.2.length ≤ A0.length + s.1 ∧ locGo P (e - s.1) s.1 s.2 = G) (fun s=>e - s.1) (n,A0) ⟨by simp only; omega,by simp only; omega,by simp only; omega,hG⟩ ?_ ?_
 ·(simp only [go_sem] <;> (first|(and_intros <;> rfl)|simp))
 rintro ⟨i,A⟩ ⟨hi0,hi1,hA,hF⟩
 simp only at hi0 hi1 hA hF ⊢
 by_cases hlt : i < e
 ·have hli : (i : Int) < (e : Int):=by omega
  have hiP : i < P.length:=by omega
  have h2 := rowAt_map encLine P i hiP
  rw [encLine] at h2
  have hkd := kd_lt hiP
  have hnm := nameAt_lt hiP
  rw [locGo_succ P hlt,hkd,hnm] at hF
  generalize P[i].kind = kk at h2 hF
  generalize P[i].name = nn at h2 hF
  by_cases h1k : kk = 1
  ·by_cases hm : nn ∈ A
   ·have hmi : ¬ firstIdx (strIs nn) A < 0:=by have := hm; rw [← firstIdx_mem] at this; omega
    rw [if_neg (fun q=>q.2 hm)] at hF
    (repeat' (first|apply zS|apply zB|((first|apply zR|apply zC|apply zT|apply zE|apply zK);simp only [go_sem,hli,h2,h1k,hmi])|apply And.intro|intro _))
    all_goals first|omega|exact ⟨(i + 1,A),⟨by simp only; omega,by simp only; omega,by simp only; omega,hF⟩,by simp only; omega,by (first|(and_intros <;> rfl)|simp)⟩|skip
   ·have hmi : firstIdx (strIs nn) A < 0:=by have := hm; rw [← firstIdx_mem] at this; omega
    rw [if_pos ⟨h1k,hm⟩] at hF
    (repeat' (first|apply zS|apply zB|((first|apply zR|apply zC|apply zT|apply zE|apply zK);simp only [go_sem,hli,h2,h1k,hmi])|apply And.intro|intro _))
    all_goals first|omega|exact ⟨(i + 1,A ++ [nn]),⟨by simp only; omega,by simp only; omega,by simp only [List.length_append,List.length_cons,List.length_nil]; omega,hF⟩,by simp only; omega,by simp only [List.map_append,List.map_cons,List.map_nil,encS]; (first|(and_intros <;> rfl)|simp)⟩|skip
  ·rw [if_neg (fun q=>h1k q.1)] at hF
   (repeat' (first|apply zS|apply zB|((first|apply zR|apply zC|apply zT|apply zE|apply zK);simp only [go_sem,hli,h2,h1k])|apply And.intro|intro _))
   all_goals first|omega|exact ⟨(i + 1,A),⟨by simp only; omega,by simp only; omega,by simp only; omega,hF⟩,by simp only; omega,by (first|(and_intros <;> rfl)|simp)⟩|skip
 ·have hge : ¬ (i : Int) < (e : Int):=by omega
  rw [show e - i = 0 by omega,locGo] at hF
  subst hF
  (repeat' (first|apply zS|apply zB|((first|apply zR|apply zC|apply zT|apply zE|apply zK);simp only [go_sem,hge])|apply And.intro|intro _))
  all_goals first|omega|rfl|skip
end
end Go.Proofs.Ytjjbcoigaejoaaa

namespace Go.Proofs.Ytjjbcoigaejoaaa
open Go.Vc
attribute [local irreducible] Go.Vc.WP
attribute [local go_sem] cx0_t cx0_c
attribute [local go_sem] decTok_enc oneTok_f decS_enc oneLine_f line_eta St.fzS addL behind St.runO St.stepO
section
noncomputable def cxLoS := mkX [(33,k60),(94,kNameOk),(95,kHasEx3),(96,kExOk)] (COk.cons c58 (COk.cons cNameOkS (COk.cons cHasExS (COk.cons cExOkS (COk.nil _)))))
theorem cxLoS_t : cxLoS.tys = tys := rfl
theorem cxLoS_c : cxLoS.C = [(33,k60),(94,kNameOk),(95,kHasEx3),(96,kExOk)] := rfl
attribute [local go_sem] cxLoS_t cxLoS_c k60 kNameOk kHasEx3 kExOk
set_option maxHeartbeats 4000000
theorem cLnOkS : Cn Try.prog 62 kLnOk := by
 refine Cn.pur Try.func62 (by kernel_rfl) rfl fun d x hx=>?_
 obtain ⟨k,n,A,E⟩ := x
 obtain ⟨hn,hA,hE⟩ := hx
 have hAl := hA.1
 have hEl := hE.1
 simp only at hn hAl hEl hA hE ⊢
 refine Holds.go (c := cxLoS) Try.func62 rfl Try.results62 Try.ntmps62 (by omega) (by simp) rfl ?_
 intro X0 w0
 by_cases hk : 0 ≤ k ∧ k ≤ 7
 ·have hk0 := hk.1
  have hk7 := hk.2
  have hh3 := hasEx3_eq hk0 hk7
  by_cases hl : ((A.length : Nat) : Int) ≤ 4
  ·(repeat' (first|apply zS|apply zB|((first|apply zR|apply zC|apply zT|apply zE|apply zK| refine zD 11 (by decide +kernel) (by kernel_rfl) ?_); simp only [go_sem,hk0,hk7,hl])|apply And.intro|intro _))
   all_goals first|omega|skip
   refine zL (fun a : Nat=>⟨[(1,.ptr 1 0 0 0),(3,.v (.int .i64 a))],[(1,.box 64 [.v (.int .i64 k),.v (.string n),.sl 1 (A.map encS),.sl 3 (E.map encTok)])]⟩)
    (fun a=>a ≤ A.length ∧ (∀ i (hi : i < A.length),i < a → nameOk A[i] = true) ∧ (A.take a).Nodup ∧ (0 < a → k = 0)) (fun a=>A.length - a) 0 (by simp) ?_ ?_
   ·(simp only [go_sem] <;> (first|(and_intros <;> rfl)|simp))
   rintro a ⟨ha,hf,hd,hz⟩
   by_cases hlt : a < A.length
   ·have hli : (a : Int) < A.length:=by omega
    have h1 := rowAt_map encS A a hlt
    have h2 := hA.2 _ (List.getElem_mem hlt)
    cases hnm : nameOk A[a] with
    |false =>
     have hno : decide (LineP ⟨k,n,A,E⟩) = false := decide_eq_false fun q=>by rw [q.names _ (List.getElem_mem hlt)] at hnm; cases hnm
     rw [hno]
     (repeat' (first|apply zS|apply zB|((first|apply zR|apply zC|apply zT|apply zE|apply zK| refine zD 11 (by decide +kernel) (by kernel_rfl) ?_); simp only [go_sem,hli,h1,encS,hnm])|apply And.intro|intro _))
     all_goals first|omega|skip
    |true =>
     by_cases h0 : k = 0
     ·have h0T : (k = 0) = True := eq_true h0
      (repeat' (first|apply zS|apply zB|((first|apply zR|apply zC|apply zT|apply zE|apply zK| refine zD 11 (by decide +kernel) (by kernel_rfl) ?_); simp only [go_sem,hli,h1,encS,hnm,h0T])|apply And.intro|intro _))
      all_goals first|omega|skip
      refine zL (fun j : Nat=>⟨[(1,.ptr 1 0 0 0),(3,.v (.int .i64 a)),(4,.v (.int .i64 j))],[(1,.box 64 [.v (.int .i64 k),.v (.string n),.sl 1 (A.map encS),.sl 3 (E.map encTok)])]⟩)
       (fun j=>j ≤ a ∧ ∀ i (hi : i < A.length),i < j → A[i] ≠ A[a]) (fun j=>a - j) 0 (by simp) ?_ ?_
      ·(simp only [go_sem] <;> (first|(and_intros <;> rfl)|simp))
      rintro j ⟨hj,hg⟩
      by_cases hja : j < a
      ·have hji : (j : Int) < a:=by omega
       have hjl : j < A.length:=by omega
       have hjli : (j : Int) < A.length:=by omega
       have h3 := rowAt_map encS A j hjl
       by_cases he : A[j] = A[a]
       ·have hno : decide (LineP ⟨k,n,A,E⟩) = false := decide_eq_false fun q=>nodup_no hlt (by rw [← he,List.mem_take_iff_getElem]; exact ⟨j,by omega,rfl⟩) q.apart
        rw [hno]
        (repeat' (first|apply zS|apply zB|((first|apply zR|apply zC|apply zT|apply zE|apply zK| refine zD 11 (by decide +kernel) (by kernel_rfl) ?_); simp only [go_sem,hji,hjli,hli,h1,h3,encS,he])|apply And.intro|intro _))
        all_goals first|omega|skip
       ·have hnx : ∀ i (hi : i < A.length),i < j + 1 → A[i] ≠ A[a] := fun i hi hij=>by
         rcases Nat.lt_or_ge i j with q|q
         ·exact hg i hi q
         ·have : i = j:=by omega
          subst this; exact he
        (repeat' (first|apply zS|apply zB|((first|apply zR|apply zC|apply zT|apply zE|apply zK| refine zD 11 (by decide +kernel) (by kernel_rfl) ?_); simp only [go_sem,hji,hjli,hli,h1,h3,encS,he])|apply And.intro|intro _))
        all_goals first|omega|exact ⟨j + 1,⟨by omega,hnx⟩,by omega,by (first|(and_intros <;> rfl)|simp)⟩|skip
      ·have hjge : ¬ (j : Int) < a:=by omega
       have hnm2 : A[a] ∉ A.take a := fun hm=>by
        obtain ⟨i,hi,hia⟩ := List.mem_take_iff_getElem.1 hm
        exact hg i (by omega) (by omega) hia
       have hnx : ∀ i (hi : i < A.length),i < a + 1 → nameOk A[i] = true := fun i hi hik=>by
        rcases Nat.lt_or_ge i a with q|q
        ·exact hf i hi q
        ·have : i = a:=by omega
         subst this; exact hnm
       (repeat' (first|apply zS|apply zB|((first|apply zR|apply zC|apply zT|apply zE|apply zK| refine zD 11 (by decide +kernel) (by kernel_rfl) ?_); simp only [go_sem,hjge])|apply And.intro|intro _))
       all_goals first|omega|exact ⟨a + 1,⟨by omega,hnx,nodup_take hlt hd hnm2,fun _=>h0⟩,by omega,by (first|(and_intros <;> rfl)|simp)⟩|exact ⟨a + 1,⟨by omega,hnx,nodup_take hlt hd hnm2⟩,by omega,by (first|(and_intros <;> rfl)|simp)⟩|skip
     ·have hno : decide (LineP ⟨k,n,A,E⟩) = false := decide_eq_false fun q=>by have := q.noArgs h0; simp only at this; rw [this] at hlt; exact absurd hlt (by simp)
      rw [hno]
      (repeat' (first|apply zS|apply zB|((first|apply zR|apply zC|apply zT|apply zE|apply zK| refine zD 11 (by decide +kernel) (by kernel_rfl) ?_); simp only [go_sem,hli,h1,encS,hnm,h0])|apply And.intro|intro _))
      all_goals first|omega|skip
   ·have hge : ¬ (a : Int) < A.length:=by omega
    have hap : ArgsP A := ⟨fun s hs=>by
     obtain ⟨i,hi,rfl⟩ := List.mem_iff_getElem.1 hs
     exact hf i hi (by omega),by rwa [List.take_of_length_le (by omega)] at hd,by omega⟩
    have hk00 : k ≠ 0 → A = [] := fun h=>by
     apply List.eq_nil_of_length_eq_zero
     rcases Nat.eq_zero_or_pos A.length with q|q
     ·exact q
     ·exact absurd (hz (by omega)) h
    clear hf hd hz
    cases hex : hasEx k with
    |true =>
     rw [hex] at hh3
     by_cases h01 : k = 0 ∨ k = 1
     ·cases hnm : nameOk n with
      |false =>
       have hno : decide (LineP ⟨k,n,A,E⟩) = false := decide_eq_false fun q=>by rw [q.name h01] at hnm; cases hnm
       rw [hno]
       (repeat' (first|apply zS|apply zB|((first|apply zR|apply zC|apply zT|apply zE|apply zK| refine zD 11 (by decide +kernel) (by kernel_rfl) ?_); simp only [go_sem,hge,h01,hnm])|apply And.intro|intro _))
       all_goals first|omega|skip
      |true =>
       have he : decide (LineP ⟨k,n,A,E⟩) = exprOk E := decide_bool ⟨fun q=>q.expr hex,fun q=>⟨hk,hap.2.2,hap.1,hap.2.1,hk00,fun _=>hnm,fun h=>absurd h01 h,fun _=>q,fun h=>by rw [hex] at h; cases h⟩⟩
       rw [he]
       (repeat' (first|apply zS|apply zB|((first|apply zR|apply zC|apply zT|apply zE|apply zK| refine zD 11 (by decide +kernel) (by kernel_rfl) ?_); simp only [go_sem,hge,h01,hnm,hh3])|apply And.intro|intro _))
       all_goals first|omega|exact hE|exact hE.2 _ ‹_›|skip
     ·have h0 : ¬ k = 0 := fun e=>h01 (.inl e)
      have h1 : ¬ k = 1 := fun e=>h01 (.inr e)
      by_cases hne : n = ⟨#[]⟩
      ·have he : decide (LineP ⟨k,n,A,E⟩) = exprOk E := decide_bool ⟨fun q=>q.expr hex,fun q=>⟨hk,hap.2.2,hap.1,hap.2.1,hk00,fun h=>absurd h h01,fun _=>hne,fun _=>q,fun h=>by rw [hex] at h; cases h⟩⟩
       have hneT : (n = ⟨#[]⟩) = True := eq_true hne
       rw [he]
       (repeat' (first|apply zS|apply zB|((first|apply zR|apply zC|apply zT|apply zE|apply zK| refine zD 11 (by decide +kernel) (by kernel_rfl) ?_); simp only [go_sem,hge,h0,h1,hneT,hh3])|apply And.intro|intro _))
       all_goals first|omega|exact hE|exact hE.2 _ ‹_›|skip
      ·have hno : decide (LineP ⟨k,n,A,E⟩) = false := decide_eq_false fun q=>hne (q.noName h01)
       rw [hno]
       (repeat' (first|apply zS|apply zB|((first|apply zR|apply zC|apply zT|apply zE|apply zK| refine zD 11 (by decide +kernel) (by kernel_rfl) ?_); simp only [go_sem,hge,h0,h1,hne])|apply And.intro|intro _))
       all_goals first|omega|skip
    |false =>
     rw [hex] at hh3
     have hl0 := len0_eq E
     by_cases h01 : k = 0 ∨ k = 1
     ·cases hnm : nameOk n with
      |false =>
       have hno : decide (LineP ⟨k,n,A,E⟩) = false := decide_eq_false fun q=>by rw [q.name h01] at hnm; cases hnm
       rw [hno]
       (repeat' (first|apply zS|apply zB|((first|apply zR|apply zC|apply zT|apply zE|apply zK| refine zD 11 (by decide +kernel) (by kernel_rfl) ?_); simp only [go_sem,hge,h01,hnm])|apply And.intro|intro _))
       all_goals first|omega|skip
      |true =>
       have he : decide (LineP ⟨k,n,A,E⟩) = decide (E = []) := decide_eq_decide.2 ⟨fun q=>q.noExpr hex,fun q=>⟨hk,hap.2.2,hap.1,hap.2.1,hk00,fun _=>hnm,fun h=>absurd h01 h,fun h=>(by rw [hex] at h; cases h),fun _=>q⟩⟩
       rw [he]
       (repeat' (first|apply zS|apply zB|((first|apply zR|apply zC|apply zT|apply zE|apply zK| refine zD 11 (by decide +kernel) (by kernel_rfl) ?_); simp only [go_sem,hge,h01,hnm,hh3,hl0])|apply And.intro|intro _))
       all_goals first|omega|exact hE|exact hE.2 _ ‹_›|skip
     ·have h0 : ¬ k = 0 := fun e=>h01 (.inl e)
      have h1 : ¬ k = 1 := fun e=>h01 (.inr e)
      by_cases hne : n = ⟨#[]⟩
      ·have he : decide (LineP ⟨k,n,A,E⟩) = decide (E = []) := decide_eq_decide.2 ⟨fun q=>q.noExpr hex,fun q=>⟨hk,hap.2.2,hap.1,hap.2.1,hk00,fun h=>absurd h h01,fun _=>hne,fun h=>(by rw [hex] at h; cases h),fun _=>q⟩⟩
       have hneT : (n = ⟨#[]⟩) = True := eq_true hne
       rw [he]
       (repeat' (first|apply zS|apply zB|((first|apply zR|apply zC|apply zT|apply zE|apply zK| refine zD 11 (by decide +kernel) (by kernel_rfl) ?_); simp only [go_sem,hge,h0,h1,hneT,hh3,hl0])|apply And.intro|intro _))
       all_goals first|omega|exact hE|exact hE.2 _ ‹_›|skip
      ·have hno : decide (LineP ⟨k,n,A,E⟩) = false := decide_eq_false fun q=>hne (q.noName h01)
       rw [hno]
       (repeat' (first|apply zS|apply zB|((first|apply zR|apply zC|apply zT|apply zE|apply zK| refine zD 11 (by decide +kernel) (by kernel_rfl) ?_); simp only [go_sem,hge,h0,h1,hne])|apply And.intro|intro _))
       all_goals first|omega|skip
  ·have hno : decide (LineP ⟨k,n,A,E⟩) = false := decide_eq_false fun q=>by have := q.few; simp only at this; omega
   have hl' : (4 : Int) < A.length:=by omega
   rw [hno]
   (repeat' (first|apply zS|apply zB|((first|apply zR|apply zC|apply zT|apply zE|apply zK| refine zD 11 (by decide +kernel) (by kernel_rfl) ?_); simp only [go_sem,hk0,hk7,hl'])|apply And.intro|intro _))
   all_goals first|omega|skip
 ·have hno : decide (LineP ⟨k,n,A,E⟩) = false := decide_eq_false fun q=>hk q.kind
  have hb : (decide (0 ≤ k) && decide (k ≤ 7)) = false:=by simp; omega
  rw [hno]
  (repeat' (first|apply zS|apply zB|((first|apply zR|apply zC|apply zT|apply zE|apply zK| refine zD 11 (by decide +kernel) (by kernel_rfl) ?_); simp only [go_sem,hb])|apply And.intro|intro _))
  all_goals first|omega|skip
end
end Go.Proofs.Ytjjbcoigaejoaaa

namespace Go.Proofs.Ytjjbcoigaejoaaa
open Go.Vc
attribute [local irreducible] Go.Vc.WP
attribute [local go_sem] cx0_t cx0_c
attribute [local go_sem] decTok_enc oneTok_f decS_enc oneLine_f line_eta St.fzS addL behind St.runO St.stepO
theorem allV_S' (L : List ByteArray) : allV (L.map encS) := fun row hr c hc=>by
 obtain ⟨x,_,rfl⟩ := List.mem_map.1 hr
 simp only [encS,List.mem_cons,List.not_mem_nil,or_false] at hc
 exact ⟨_,hc⟩
theorem decS_cons (s : ByteArray) (R : List (List SV)) : decS ([.v (.string s)] :: R) = s :: decS R := rfl
theorem decS_app (R T : List (List SV)) : decS (R ++ T) = decS R ++ decS T := List.map_append
theorem decS_nil : decS [] = [] := rfl
section
attribute [local irreducible] smLine smToks
attribute [local go_sem] decS_cons decS_app decS_nil
attribute [local go_sem] kLnOk
set_option maxHeartbeats 4000000
end
section
attribute [local irreducible] smLine smToks
attribute [local go_sem] kLnOk
set_option maxHeartbeats 4000000
end
end Go.Proofs.Ytjjbcoigaejoaaa

