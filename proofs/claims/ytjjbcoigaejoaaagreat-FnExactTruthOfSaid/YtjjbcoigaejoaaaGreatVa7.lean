/-
  DERIVED. Several texts of ours in one: VtPg2I, VtRunD, VcMd, VcFb, VtRunS, VtPg1S, VtPg2S, VcCt, VtLnS, VtFmtLn, VtPg3I, VtPg3S, VtPg4I.
-/
import Derived.Test.YtjjbcoigaejoaaaGreatVa0
import Derived.Test.YtjjbcoigaejoaaaGreatVa1
import Derived.Test.YtjjbcoigaejoaaaGreatVa2
import Derived.Test.YtjjbcoigaejoaaaGreatVa3
import Derived.Test.YtjjbcoigaejoaaaGreatVa4
import Derived.Test.YtjjbcoigaejoaaaGreatVa5
import Derived.Test.YtjjbcoigaejoaaaGreatVa6
set_option linter.unusedSimpArgs false
set_option linter.unusedVariables false
set_option maxHeartbeats 1000000
set_option maxRecDepth 10000
namespace Go.Proofs.YtjjbcoigaejoaaaGreat
open Go.Vc
attribute [local irreducible] Go.Vc.WP
attribute [local go_sem] cx0_t cx0_c
attribute [local go_sem] decS_enc decTok_enc decLine_enc oneLine_f line_eta oneTok_f aPk St.fzS addL behind St.runO St.stepO
theorem rowS_ln {L : List ByteArray} {r : List SV} (h : r ∈ L.map encS) : r.length = 1:=by obtain ⟨n,_,rfl⟩ := List.mem_map.1 h; rfl
theorem locGo_succ (P : List Line) {e i : Nat} (h : i < e) (A : List ByteArray) : locGo P (e - i) i A = locGo P (e - (i + 1)) (i + 1) (if kd P i = 1 ∧ nameAt P i ∉ A then A ++ [nameAt P i] else A) := by
 rw [show e - i = (e - (i + 1)) + 1 by omega,locGo]
def kLcl : Ctr := pur aPk (fun x=>[.sl 4 (x.1.map encLine),.v (.int .i64 x.2)]) (fun x=>x.1.length ≤ 1048576 ∧ ∀ y ∈ x.1,shLine y) (fun d _=>.own d) (fun d x=>[(d,.sl 9 1 ((localsOf x.1 x.2).map encS))])
theorem localsOf_neg {P : List Line} {k : Int} (h : endOf P k < 0) : localsOf P k = [] := if_pos (.inl h)
theorem localsOf_kd {P : List Line} {n : Nat} (h : n < P.length) (h3 : ¬ P[n].kind = 0) : localsOf P n = [] := if_pos (.inr (by rw [Int.toNat_natCast,kd_lt h]; exact h3))
theorem localsOf_go {P : List Line} {n e : Nat} (h : n < P.length) (h3 : P[n].kind = 0) (he : endOf P n = (e : Int)) : localsOf P n = locGo P (e - n) n P[n].args := by
 unfold localsOf
 rw [Int.toNat_natCast,kd_lt h,he,Int.toNat_natCast,if_neg (by omega),argsAt_lt h]
section
attribute [local irreducible] shLine
noncomputable def cxLclI := mkX [(83,kBlk),(110,kHasS)] (COk.cons cBlkI (COk.cons cHasS (COk.nil _)))
theorem cxLclI_t : cxLclI.tys = tys := rfl
theorem cxLclI_c : cxLclI.C = [(83,kBlk),(110,kHasS)] := rfl
attribute [local go_sem] cxLclI_t cxLclI_c kBlk kHasS
set_option maxHeartbeats 8000000
theorem cLclI : Cn Tryz.prog 102 kLcl := by
 refine Cn.pur Tryz.func102 (by kernel_rfl) rfl fun d x hx=>?_
 obtain ⟨P,k⟩ := x
 obtain ⟨hx,hsh⟩ := hx
 simp only at hx hsh ⊢
 refine Holds.go (c := cxLclI) Tryz.func102 rfl Tryz.results102 Tryz.ntmps102 (by omega) (by simp) rfl ?_
 intro X0 w0
 have lk0 : lk 0 tys = none := rfl
 by_cases hneg : endOf P k < 0
 ·rw [localsOf_neg hneg]
  (repeat' (first|apply zS|apply zB|((first|refine WP.regionO (id := 2) ?_); simp only [go_sem,hneg])|((first|apply zR|apply zC|apply zT|apply zE|apply zK);simp only [go_sem,hneg])|apply And.intro|intro _))
  all_goals first|omega|rfl|exact ⟨_,_,rfl⟩|exact ⟨_,_,_,rfl⟩|skip
 have hin := endOf_opens (P := P) (k := k) (by omega)
 obtain ⟨n,rfl⟩ := Int.eq_ofNat_of_zero_le hin.1
 have hn : n < P.length:=by omega
 obtain ⟨e,he,hE,hne⟩ := endOf_nn (P := P) (k := n) (by omega)
 have hel := hE.lt
 have h1 := rowAt_map encLine P n hn
 have he0 : ¬ (e : Int) < 0:=by omega
 by_cases h3 : P[n].kind = 0
 rotate_left
 ·rw [localsOf_kd hn h3]
  (repeat' (first|apply zS|apply zB|((first|apply zR|apply zC|apply zT|apply zE|apply zK);simp only [go_sem,h1,encLine,h3,he,he0])|apply And.intro|intro _))
  all_goals first|omega|rfl|exact ⟨_,_,rfl⟩|exact ⟨_,_,_,rfl⟩|skip
 rw [localsOf_go hn h3 he]
 have hsn : P[n].args.length ≤ 1048576:=by have := hsh _ (List.getElem_mem hn); unfold shLine at this; exact this.1
 generalize hA0 : P[n].args = A0 at hsn
 rw [encLine,hA0] at h1
 have hnn : (0 : Nat) + A0.length = A0.length:=by omega
 (repeat' (first|apply zS|apply zB|((first|apply zR|apply zC|apply zT|apply zE|apply zK);simp only [go_sem,h1,h3,he,he0])|apply And.intro|intro _))
 all_goals first|omega|exact rowS_ln ‹_›|skip
 generalize hG : locGo P (e - n) n A0 = G
 refine zL (fun s : Nat × List ByteArray=>⟨[(0,.sl 4 (P.map encLine)),(5,.v (.int .i64 e)),(6,.own 21),(7,.v (.int .i64 s.1))],[(21,.sl 9 1 (s.2.map encS))]⟩)
  (fun s=>n ≤ s.1 ∧ s.1 ≤ e ∧ s.2.length ≤ A0.length + s.1 ∧ locGo P (e - s.1) s.1 s.2 = G) (fun s=>e - s.1) (n,A0) ⟨by simp only; omega,by simp only; omega,by simp only; omega,hG⟩ ?_ ?_
 ·(simp only [go_sem] <;> (first|(and_intros <;> rfl)|simp))
 rintro ⟨i,A⟩ ⟨hi0,hi1,hA,hF⟩
 simp only at hi0 hi1 hA hF ⊢
 by_cases hlt : i < e
 ·have hli : (i : Int) < (e : Int):=by omega
  have hiP : i < P.length:=by omega
  have h2 := rowAt_map encLine P i hiP
  rw [encLine] at h2
  have hkd := kd_lt hiP
  have hnm := nameAt_lt hiP
  rw [locGo_succ P hlt,hkd,hnm] at hF
  generalize P[i].kind = kk at h2 hF
  generalize P[i].name = nn at h2 hF
  by_cases h1k : kk = 1
  ·by_cases hm : nn ∈ A
   ·have hmi : (nn ∈ A) = True := eq_true hm
    rw [if_neg (fun q=>q.2 hm)] at hF
    (repeat' (first|apply zS|apply zB|((first|apply zR|apply zC|apply zT|apply zE|apply zK);simp only [go_sem,hli,h2,h1k,hmi])|apply And.intro|intro _))
    all_goals first|omega|exact ⟨(i + 1,A),⟨by simp only; omega,by simp only; omega,by simp only; omega,hF⟩,by simp only; omega,by (first|(and_intros <;> rfl)|simp)⟩|skip
   ·have hmi : (nn ∈ A) = False := eq_false hm
    rw [if_pos ⟨h1k,hm⟩] at hF
    (repeat' (first|apply zS|apply zB|((first|apply zR|apply zC|apply zT|apply zE|apply zK);simp only [go_sem,hli,h2,h1k,hmi])|apply And.intro|intro _))
    all_goals first|omega|exact ⟨(i + 1,A ++ [nn]),⟨by simp only; omega,by simp only; omega,by simp only [List.length_append,List.length_cons,List.length_nil]; omega,hF⟩,by simp only; omega,by simp only [List.map_append,List.map_cons,List.map_nil,encS]; (first|(and_intros <;> rfl)|simp)⟩|skip
  ·rw [if_neg (fun q=>h1k q.1)] at hF
   (repeat' (first|apply zS|apply zB|((first|apply zR|apply zC|apply zT|apply zE|apply zK);simp only [go_sem,hli,h2,h1k])|apply And.intro|intro _))
   all_goals first|omega|exact ⟨(i + 1,A),⟨by simp only; omega,by simp only; omega,by simp only; omega,hF⟩,by simp only; omega,by (first|(and_intros <;> rfl)|simp)⟩|skip
 ·have hge : ¬ (i : Int) < (e : Int):=by omega
  rw [show e - i = 0 by omega,locGo] at hF
  subst hF
  (repeat' (first|apply zS|apply zB|((first|apply zR|apply zC|apply zT|apply zE|apply zK);simp only [go_sem,hge])|apply And.intro|intro _))
  all_goals first|omega|rfl|skip
end
def kKnown : Ctr := pur (fun args=>(decLine (aR args 0),decS (aR args 1),decTok (aR args 2))) (fun x=>[.sl 4 (x.1.map encLine),.sl 1 (x.2.1.map encS),.sl 3 (x.2.2.map encTok)]) (fun x=>x.1.length ≤ 1048576 ∧ x.2.1.length ≤ 1048576 ∧ x.2.2.length ≤ 1048576 ∧ ∀ y ∈ x.1,shLine y)
 (fun _ x=>.v (.bool (knownE x.1 x.2.1 x.2.2))) (fun _ _=>[])
theorem knownE_no {P : List Line} {A : List ByteArray} {E : List Tok} {i : Nat} (h : i < E.length) (hk : knownT P A E[i] = false) : knownE P A E = false := by
 cases hb : knownE P A E with
 |false=>rfl
 |true=>rw [List.all_eq_true.1 hb _ (List.getElem_mem h)] at hk; cases hk
theorem knownE_yes {P : List Line} {A : List ByteArray} {E : List Tok} (h : ∀ i (hi : i < E.length),knownT P A E[i] = true) : knownE P A E = true :=
 List.all_eq_true.2 fun x hx=>by obtain ⟨i,hi,rfl⟩ := List.mem_iff_getElem.1 hx; exact h i hi
theorem knownE_nx {P : List Line} {A : List ByteArray} {E : List Tok} {i : Nat} (h : i < E.length) (hk : knownT P A E[i] = true) (hb : ∀ j (hj : j < E.length),j < i → knownT P A E[j] = true) : ∀ j (hj : j < E.length),j < i + 1 → knownT P A E[j] = true := fun j hj hji=>by
 rcases Nat.lt_or_ge j i with q|q
 ·exact hb j hj q
 ·have : j = i:=by omega
  subst this; exact hk
theorem findFn_form (P : List Line) (s : ByteArray) : findFn P s = -1 ∨ ∃ f : Nat,f < P.length ∧ findFn P s = (f : Int) := by
 rcases Int.lt_or_le (findFn P s) 0 with h|h
 ·left
  rcases firstIdx_bound (isFn s) P with q|q
  ·unfold findFn at h ⊢; omega
  ·exact q
 ·obtain ⟨f,hf,h1,_⟩ := firstIdx_pos (p := isFn s) (L := P) (by unfold findFn at h; omega)
  exact .inr ⟨f,hf,h1⟩
section
attribute [local irreducible] shLine
noncomputable def cxKnI := mkX [(110,kHasS),(84,kFind)] (COk.cons cHasS (COk.cons cFindI (COk.nil _)))
theorem cxKnI_t : cxKnI.tys = tys := rfl
theorem cxKnI_c : cxKnI.C = [(110,kHasS),(84,kFind)] := rfl
attribute [local go_sem] cxKnI_t cxKnI_c kHasS kFind
set_option maxHeartbeats 8000000
theorem cKnownI : Cn Tryz.prog 103 kKnown := by
 refine Cn.pur Tryz.func103 (by kernel_rfl) rfl fun d x hx=>?_
 obtain ⟨P,A,E⟩ := x
 obtain ⟨hx,hA,hEl,hsh⟩ := hx
 simp only at hx hA hEl hsh ⊢
 refine Holds.go (c := cxKnI) Tryz.func103 rfl Tryz.results103 Tryz.ntmps103 (by omega) (by simp) rfl ?_
 intro X0 w0
 have lk0 : lk 0 tys = none := rfl
 (repeat' (first|apply zS|apply zB|((first|apply zR|apply zC|apply zT|apply zE|apply zK| refine zD 13 (by decide +kernel) (by kernel_rfl) ?_); simp only [go_sem])|apply And.intro|intro _))
 all_goals first|omega|skip
 refine zL (fun i : Nat=>⟨[(0,.sl 4 (P.map encLine)),(1,.sl 1 (A.map encS)),(10,.sl 3 (E.map encTok)),(11,.v (.int .i64 E.length)),(12,.v (.int .i64 i))],[]⟩)
  (fun i=>i ≤ E.length ∧ ∀ j (hj : j < E.length),j < i → knownT P A E[j] = true) (fun i=>E.length - i) 0 ⟨by omega,fun j hj h=>by omega⟩ ?_ ?_
 ·(simp only [go_sem] <;> (first|(and_intros <;> rfl)|simp))
 rintro i ⟨hi,hb⟩
 by_cases hlt : i < E.length
 ·have hli : (i : Int) < E.length:=by omega
  have h2 := rowAt_map encTok E i hlt
  have hno := knownE_no (P := P) (A := A) hlt
  have hnx := fun q=>knownE_nx (P := P) (A := A) hlt q hb
  generalize E[i] = t at h2 hno hnx
  obtain ⟨tk,tn,ts⟩ := t
  rw [encTok] at h2
  simp only at h2
  by_cases h1 : tk = 1
  ·subst h1
   by_cases hm : ts ∈ A
   ·have hmi : (ts ∈ A) = True := eq_true hm
    have hkt : knownT P A ⟨1,tn,ts⟩ = true:=by simp [knownT,hm]
    have hq := hnx hkt
    (repeat' (first|apply zS|apply zB|((first|apply zR|apply zC|apply zT|apply zE|apply zK| refine zD 13 (by decide +kernel) (by kernel_rfl) ?_); simp only [go_sem,hli,h2,hmi])|apply And.intro|intro _))
    all_goals first|omega|exact ⟨i + 1,⟨by omega,hq⟩,by omega,by (first|(and_intros <;> rfl)|simp)⟩|skip
   ·have hmi : (ts ∈ A) = False := eq_false hm
    rw [hno (by simp [knownT,hm])]
    (repeat' (first|apply zS|apply zB|((first|apply zR|apply zC|apply zT|apply zE|apply zK| refine zD 13 (by decide +kernel) (by kernel_rfl) ?_); simp only [go_sem,hli,h2,hmi])|apply And.intro|intro _))
    all_goals first|omega|rfl|skip
  by_cases h7 : tk = 7
  rotate_left
  ·have hq := hnx (by simp [knownT,h1,h7])
   (repeat' (first|apply zS|apply zB|((first|apply zR|apply zC|apply zT|apply zE|apply zK| refine zD 13 (by decide +kernel) (by kernel_rfl) ?_); simp only [go_sem,hli,h2,h1,h7])|apply And.intro|intro _))
   all_goals first|omega|exact ⟨i + 1,⟨by omega,hq⟩,by omega,by (first|(and_intros <;> rfl)|simp)⟩|skip
  subst h7
  rcases findFn_form P ts with hf|⟨f,hf,hff⟩
  ·rw [hno (by simp [knownT,hf])]
   by_cases hP : 0 < P.length
   ·have h3 := rowAt_map encLine P 0 hP
    rw [encLine] at h3
    (repeat' (first|apply zS|apply zB|((first|apply zR|apply zC|apply zT|apply zE|apply zK| refine zD 13 (by decide +kernel) (by kernel_rfl) ?_); simp only [go_sem,hli,h2,hf,h3])|apply And.intro|intro _))
    all_goals first|omega|rfl|skip
   ·have h3 : Go.Vc.rowAt (P.map encLine) 0 = []:=by unfold Go.Vc.rowAt; rw [List.getElem?_eq_none (by rw [List.length_map]; omega)]; rfl
    (repeat' (first|apply zS|apply zB|((first|apply zR|apply zC|apply zT|apply zE|apply zK| refine zD 13 (by decide +kernel) (by kernel_rfl) ?_); simp only [go_sem,hli,h2,hf,h3])|apply And.intro|intro _))
    all_goals first|omega|rfl|skip
  ·have h3 := rowAt_map encLine P f hf
   rw [encLine] at h3
   have hal := argsAt_lt hf
   have hf0 : ¬ (f : Int) < 0:=by omega
   have hkt : knownT P A ⟨7,tn,ts⟩ = decide ((P[f].args.length : Int) = tn):=by simp [knownT,hff,hal]
   have hsl : P[f].args.length ≤ 1048576:=by have := hsh _ (List.getElem_mem hf); unfold shLine at this; exact this.1
   generalize P[f].args = AA at h3 hkt hsl
   by_cases hc : (AA.length : Int) = tn
   ·have hq := hnx (by rw [hkt]; exact decide_eq_true hc)
    (repeat' (first|apply zS|apply zB|((first|apply zR|apply zC|apply zT|apply zE|apply zK| refine zD 13 (by decide +kernel) (by kernel_rfl) ?_); simp only [go_sem,hli,h2,hff,hf0,h3,hc])|apply And.intro|intro _))
    all_goals first|omega|exact ⟨i + 1,⟨by omega,hq⟩,by omega,by (first|(and_intros <;> rfl)|simp)⟩|skip
   ·rw [hno (by rw [hkt]; exact decide_eq_false hc)]
    (repeat' (first|apply zS|apply zB|((first|apply zR|apply zC|apply zT|apply zE|apply zK| refine zD 13 (by decide +kernel) (by kernel_rfl) ?_); simp only [go_sem,hli,h2,hff,hf0,h3,hc])|apply And.intro|intro _))
    all_goals first|omega|rfl|skip
 ·have hge : ¬ (i : Int) < E.length:=by omega
  rw [knownE_yes fun j hj=>hb j hj (by omega)]
  (repeat' (first|apply zS|apply zB|((first|apply zR|apply zC|apply zT|apply zE|apply zK| refine zD 13 (by decide +kernel) (by kernel_rfl) ?_); simp only [go_sem,hge])|apply And.intro|intro _))
  all_goals first|omega|rfl|skip
end
end Go.Proofs.YtjjbcoigaejoaaaGreat

namespace Go.Proofs.YtjjbcoigaejoaaaGreat
open Go.Vc
attribute [local irreducible] Go.Vc.WP
attribute [local go_sem] cx0_t cx0_c
def encVl (l : List Int) : List SV := [.sl 1 (l.map encI)]
def oneVl : List SV → List Int
 | [.sl _ r]=>decI r
 | _=>[]
def decVl (rows : List (List SV)) : List (List Int) := rows.map oneVl
theorem decVl_enc (L : List (List Int)) : decVl (L.map encVl) = L := by
 unfold decVl
 rw [List.map_map]
 have : (oneVl ∘ encVl) = id := funext fun l=>by
  show decI (l.map encI) = l
  exact decI_enc l
 rw [this]; simp
theorem rs_eta (s : RS) : (⟨s.out,s.vis,s.calls⟩ : RS) = s := rfl
end Go.Proofs.YtjjbcoigaejoaaaGreat

namespace Go.Vc
section
variable {c : Cx} {N : Nat} {X0 : Nat → Prop} {M : Nat → BV → Prop} {w0 : World} {st : St} {K : Exit → St → Prop}
theorem WP.mid {S : Type} {x y : Code} (T : S → St) (J : S → Prop) (h1 : WP c N X0 M w0 x st (thenK (fun st'=>∃ s,J s ∧ st'.has (T s)) K)) (h2 : ∀ s,J s → WP c N X0 M w0 y (T s) K) : WP c N X0 M w0 x st (thenK (fun st'=>WP c N X0 M w0 y st' K) K) := fun hA β a w hs =>
 Code.wp_mono (fun e a w hq=>by
  cases e with
  |normal=>obtain ⟨st',β',⟨s,hJ,hh⟩,h3⟩ := hq; exact ⟨T s,β',h2 s hJ,h3.has hh⟩
  | _=>exact hq) (h1 hA β a w hs)
theorem WP.atReg {b : Nat} {ops : Array Oper} {d : Bool} (h : WP c N X0 M w0 (.region b ops d) st K) : WP c N X0 M w0 (.region b ops d) st K := h
theorem WP.atBlk {b : Nat} {p : Code} (h : WP c N X0 M w0 (.block b p) st K) : WP c N X0 M w0 (.block b p) st K := h
end
end Go.Vc

namespace Go.Vc
def SV.jk (js : List Nat) : SV → SV
 | .own i=>if js.contains i then .junk else .own i
 | .ptr i s a b=>if js.contains i then .junk else .ptr i s a b
 | .agg _=>.junk
 | .tup _=>.junk
 | .fn _ _=>.junk
 | .cond _ _=>.junk
 |x=>x
def Ob.jk (js : List Nat) : Ob → Ob
 | .box e cs=>.box e (cs.map (SV.jk js))
 |o=>o
def St.hasO (st : St) (cc : Nat) (K : Ob → Prop) : Prop := match lk cc st.hp with
 |some ob=>K ob
 |none=>False
def St.setO (st : St) (cc : Nat) (ob : Ob) : St := { st with hp := (cc,ob) :: er cc st.hp }
theorem SV.jk_kill {js : List Nat} {d : Nat} (hd : d ∈ js) (x : SV) : (x.kill d).jk js = x.jk js := by
 have hc : js.contains d = true := List.contains_iff_mem.2 hd
 cases x with
 |own i =>
  show (if i = d then SV.junk else .own i).jk js = _
  by_cases h : i = d
  ·subst h; rw [if_pos rfl]; simp only [SV.jk,hc,if_true]
  ·rw [if_neg h]
 |ptr i s a b =>
  show (if i = d then SV.junk else .ptr i s a b).jk js = _
  by_cases h : i = d
  ·subst h; rw [if_pos rfl]; simp only [SV.jk,hc,if_true]
  ·rw [if_neg h]
 | _=>rfl
def Ob.bx : Ob → Bool
 | .box _ _=>true
 | _=>false
theorem Ob.jk_kill {js : List Nat} {d : Nat} (hd : d ∈ js) {o : Ob} (hb : o.bx = true) : (o.kill d).jk js = o.jk js ∧ (o.kill d).bx = true := by
 cases o with
 |box e cs =>
  refine ⟨?_,rfl⟩
  simp only [Ob.kill,Ob.jk,List.map_map]
  congr 1
  exact List.map_congr_left fun x _=>SV.jk_kill hd x
 | _=>cases hb
section
variable {c : Cx} {N : Nat} {X0 : Nat → Prop} {M : Nat → BV → Prop} {w0 : World} {K : Exit → St → Prop} {st : St} {β : Nat → BV} {a : Act} {w : World}
theorem R.jk {X : Nat → Prop} {js : List Nat} {x : SV} {v : Value} (h : R w X β x v) : R w X β (x.jk js) v := by
 cases x with
 |own i=>show R w X β (if js.contains i then .junk else .own i) v; split <;> first|exact .junk _|exact h
 |ptr i s a b=>show R w X β (if js.contains i then .junk else .ptr i s a b) v; split <;> first|exact .junk _|exact h
 |v x=>exact h
 |sl s rows=>exact h
 |rptr s rows i k=>exact h
 |junk=>exact h
 | _=>exact .junk _
theorem Sim.jk (h : Sim N X0 M w0 st β a w) {cc : Nat} {ob : Ob} {js : List Nat} (hl : lk cc st.hp = some ob) : Sim N X0 M w0 (st.setO cc (ob.jk js)) β a w := by
 have hlk : ∀ {id o},lk id (st.setO cc (ob.jk js)).hp = some o → (id = cc ∧ o = ob.jk js) ∨ (id ≠ cc ∧ lk id st.hp = some o) := fun {id o} hi=>by
  by_cases he : id = cc
  ·subst he; simp only [St.setO,lk,if_true] at hi; exact .inl ⟨rfl,by simpa using hi.symm⟩
  ·simp only [St.setO,lk,if_neg he,lk_er_ne he] at hi; exact .inr ⟨he,hi⟩
 have hold : ∀ {id o},lk id (st.setO cc (ob.jk js)).hp = some o → ∃ o',lk id st.hp = some o' := fun {id o} hi=>by
  rcases hlk hi with ⟨rfl,_⟩|⟨_,h2⟩
  ·exact ⟨ob,hl⟩
  ·exact ⟨o,h2⟩
 have hX : ∀ b,XX X0 β (st.setO cc (ob.jk js)).hp b → XX X0 β st.hp b := fun b hb=>by
  rcases hb with hb|⟨id,o,hi,hb⟩
  ·exact .inl hb
  ·obtain ⟨o',ho'⟩ := hold hi; exact .inr ⟨id,o',ho',hb⟩
 have hS : Same (XX X0 β st.hp) w w := ⟨Nat.le_refl _,fun _ _ _=>rfl⟩
 exact { h with
  slots := fun t x hx=>(h.slots t x hx).mono hS fun b _ hb=>hX b hb
  objs := fun id o hi=>by
   rcases hlk hi with ⟨rfl,rfl⟩|⟨_,h2⟩
   ·have hO := (h.objs id ob hl).mono (X' := XX X0 β (st.setO id (ob.jk js)).hp) hS (fun b _ hb=>hX b hb) (fun _ _=>rfl)
    cases ob with
    |box e cs =>
     cases hO with
     |box b cur hv hh hl' hc =>
      refine .box b cur hv hh (by simpa using hl') fun k c u hk hu=>?_
      obtain ⟨c0,h0,rfl⟩ := map_get hk
      exact ⟨(hc k c0 u h0 hu).1,(hc k c0 u h0 hu).2.jk⟩
    | _=>exact hO
   ·exact (h.objs id o h2).mono hS (fun b _ hb=>hX b hb) (fun _ _=>rfl)
  inj := fun i j oi oj b hi hj=>by
   obtain ⟨o1,h1⟩ := hold hi
   obtain ⟨o2,h2⟩ := hold hj
   exact h.inj i j o1 o2 b h1 h2
  mine := fun id o b hi hb=>by obtain ⟨o1,h1⟩ := hold hi; exact h.mine id o1 b h1 hb }
theorem flow_headB {ops : Array Oper} {m : Nat} {fl : List Fp} {cc : Nat} {obJ : Ob} {js : List Nat} (hcc : ∀ k,k < m → cc ∉ (fpAt fl k).mks ∧ cc ∉ (fpAt fl k).gn) (hjs : ∀ k,k < m → ∀ d,d ∈ (fpAt fl k).mks ∨ d ∈ (fpAt fl k).gn → d ∈ js) (hAp : Ap c.P X0 M w0) (hB : FlowOk ops m fl) {base : St} {F : Nat → Nat × Dl} {gs : List Nat}
  (hF : ∀ k o,k < m → ops[k]? = some o → (base.least ((List.range k).map fun q=>(q,F q)) (fpAt fl k)).dlt c.tys c.C N ops o (F k).1 (F k).2 ∧ ((fpAt fl k).lks.all fun t=>(lk t (base.least ((List.range k).map fun q=>(q,F q)) (fpAt fl k)).fr).isSome) = true ∧ dlOk (fpAt fl k) (F k).2)
  (hb1 : ∀ t x,lk t base.fr = some x → (∀ k,k < m → dstAt ops k ≠ some t) ∧ ∀ k,k < m → ∀ d ∈ (fpAt fl k).mks,x.kill d = x)
  (hb2 : ∀ id ob,lk id base.hp = some ob → ∀ k,k < m → ∀ d ∈ (fpAt fl k).mks,d ≠ id ∧ ob.kill d = ob) (hgs : ∀ k,k < m → ∀ d ∈ (fpAt fl k).gn,d ∈ gs)
  (hr : St.runR c.tys c.C N ops (ops.toList.drop m) ((base.final ((List.range m).map fun q=>(q,F q)) gs).setO cc obJ) (K .normal)) : ∀ (fuel : Nat) (listed : Array Bool) (st' : St) (β : Nat → BV) (a : Act) (w : World),listed.size = ops.size →
  (∀ j,m ≤ j → j < ops.size → listed.getD j false = false) → fuel = (List.range ops.size).countP (fun j=>!listed.getD j false) → Closed fl ops.size listed → Sim N X0 M w0 st' β a w →
  (∀ t x,lk t base.fr = some x → (∀ d,(∃ j,j < m ∧ listed.getD j false = true ∧ d ∈ (fpAt fl j).gn) → x.kill d = x) → lk t st'.fr = some x) →
  (∀ k,k < m → listed.getD k false = true → (∀ d,(∃ j,j < m ∧ listed.getD j false = true ∧ d ∈ (fpAt fl j).gn) → (F k).2.x.kill d = (F k).2.x) → lk (F k).1 st'.fr = some (F k).2.x) →
  (∀ id ob,lk id base.hp = some ob → (∀ d,(∃ j,j < m ∧ listed.getD j false = true ∧ d ∈ (fpAt fl j).gn) → d ≠ id ∧ ob.kill d = ob) → lk id st'.hp = some ob) →
  (∀ k,k < m → listed.getD k false = true → ∀ id ob,lk id (F k).2.made = some ob → (∀ d,(∃ j,j < m ∧ listed.getD j false = true ∧ d ∈ (fpAt fl j).gn) → d ≠ id ∧ ob.kill d = ob) → lk id st'.hp = some ob) → (∃ ob',lk cc st'.hp = some ob' ∧ ob'.bx = true ∧ ob'.jk js = obJ) →
  wpAny c.P .any ops (fun e a' w'=>Ok N X0 M w0 (K e) a' w') fuel listed a w := by
 have hdst : ∀ k,k < m → dstAt ops k = some (F k).1 := fun k hk=>by
  have hks : k < ops.size:=by have := hB.le; omega
  have ho : ops[k]? = some (ops[k]'hks) := Array.getElem?_eq_getElem hks
  have := (hF k _ hk ho).1.1
  unfold dstAt
  rw [ho]; exact this
 have hlast : ∀ (fuel : Nat) (listed : Array Bool) (st' : St) (β : Nat → BV) (a : Act) (w : World),m + fuel = ops.size → listed.size = ops.size → Closed fl ops.size listed → (∀ j,j < ops.size → listed.getD j false = decide (j < m)) → Sim N X0 M w0 st' β a w →
   (∀ t x,lk t base.fr = some x → (∀ d,(∃ j,j < m ∧ listed.getD j false = true ∧ d ∈ (fpAt fl j).gn) → x.kill d = x) → lk t st'.fr = some x) →
   (∀ k,k < m → listed.getD k false = true → (∀ d,(∃ j,j < m ∧ listed.getD j false = true ∧ d ∈ (fpAt fl j).gn) → (F k).2.x.kill d = (F k).2.x) → lk (F k).1 st'.fr = some (F k).2.x) →
   (∀ id ob,lk id base.hp = some ob → (∀ d,(∃ j,j < m ∧ listed.getD j false = true ∧ d ∈ (fpAt fl j).gn) → d ≠ id ∧ ob.kill d = ob) → lk id st'.hp = some ob) →
   (∀ k,k < m → listed.getD k false = true → ∀ id ob,lk id (F k).2.made = some ob → (∀ d,(∃ j,j < m ∧ listed.getD j false = true ∧ d ∈ (fpAt fl j).gn) → d ≠ id ∧ ob.kill d = ob) → lk id st'.hp = some ob) → (∃ ob',lk cc st'.hp = some ob' ∧ ob'.bx = true ∧ ob'.jk js = obJ) →
   wpAny c.P .any ops (fun e a' w'=>Ok N X0 M w0 (K e) a' w') fuel listed a w := by
  intro fuel listed st' β a w hfu hsz hcl hl hs I1 I2 I3 I4 I5
  obtain ⟨ob5,g5,_,rfl⟩ := I5
  refine flow_tail (c := c) hAp hB fuel m listed _ β a w hfu (Nat.le_refl _) hsz hcl hl ((hs.jk (js := js) g5).less (st' := (base.final ((List.range m).map fun q=>(q,F q)) gs).setO cc (ob5.jk js)) (fun t x hx=>?_) (fun id ob hx=>?_)) hr
  ·obtain ⟨h1,h2⟩ := hide_fr hx
   have hG : ∀ d,(∃ j,j < m ∧ listed.getD j false = true ∧ d ∈ (fpAt fl j).gn) → x.kill d = x := fun d ⟨j,hj,_,hd⟩=>h2 d (hgs j hj d hd)
   rcases lk_app h1 with h1|h1
   ·have hm := lk_mem h1
    simp only [List.map_map,List.mem_map,List.mem_range,Function.comp_apply] at hm
    obtain ⟨k,hk,e⟩ := hm
    injection e with e1 e2
    subst e1 e2
    exact I2 k hk (by rw [hl k (by have := hB.le; omega)]; simpa using hk) hG
   ·exact I1 t x h1 hG
  ·by_cases hic : id = cc
   ·subst hic
    have e1 : lk id ((base.final ((List.range m).map fun q=>(q,F q)) gs).setO id (ob5.jk js)).hp = some (ob5.jk js):=by simp [St.setO,lk]
    rw [e1] at hx
    simp only [St.setO,lk,if_true]; exact hx
   simp only [St.setO,lk,if_neg hic,lk_er_ne hic] at hx ⊢
   obtain ⟨h1,h2⟩ := hide_hp hx
   have hG : ∀ d,(∃ j,j < m ∧ listed.getD j false = true ∧ d ∈ (fpAt fl j).gn) → d ≠ id ∧ ob.kill d = ob := fun d ⟨j,hj,_,hd⟩=>h2 d (hgs j hj d hd)
   rcases lk_app h1 with h1|h1
   ·obtain ⟨e,he,h3⟩ := lk_flatMap h1
    obtain ⟨k,hk,rfl⟩ := List.mem_map.1 he
    have hk := List.mem_range.1 hk
    exact I4 k hk (by rw [hl k (by have := hB.le; omega)]; simpa using hk) id ob h3 hG
   ·exact I3 id ob h1 hG
 intro fuel
 induction fuel with
 |zero =>
  intro listed st' β a w hsz hsuf hf hcl hs I1 I2 I3 I4 I5
  have hall : ∀ j,j < ops.size → listed.getD j false = true := fun j hj=>by
   have : (List.range ops.size).countP (fun j=>!listed.getD j false) = 0 := hf.symm
   rw [List.countP_eq_zero] at this
   have := this j (List.mem_range.2 hj)
   simpa using this
  have hm : m = ops.size := by
   rcases Nat.lt_or_ge m ops.size with h|h
   ·have := hall m h; rw [hsuf m (Nat.le_refl _) h] at this; cases this
   ·have := hB.le; omega
  exact hlast 0 listed st' β a w (by omega) hsz hcl (fun j hj=>by rw [hall j hj]; simp; omega) hs I1 I2 I3 I4 I5
 |succ fuel ih =>
  intro listed st' β a w hsz hsuf hf hcl hs I1 I2 I3 I4 I5
  have hgT : ∀ j,j < ops.size → listed.getD j true = listed.getD j false := fun j hj=>by
   rw [Array.getD_eq_getD_getElem?,Array.getD_eq_getD_getElem?,Array.getElem?_eq_getElem (by omega)]; rfl
  have hex : ∃ p,p < ops.size ∧ listed.getD p false = false := by
   have h1 : 0 < (List.range ops.size).countP (fun j=>!listed.getD j false):=by omega
   obtain ⟨p,hp,hq⟩ := List.countP_pos_iff.1 h1
   exact ⟨p,List.mem_range.1 hp,by simpa using hq⟩
  obtain ⟨p,⟨hp,hpf⟩,hmin⟩ := least hex
  have hrdy : p ∈ Region.ready .any ops listed := mem_ready'.2 ⟨hp,by rw [hgT p hp]; exact hpf,_,Array.getElem?_eq_getElem hp,deps_ready (i := p) (ops := ops) fun e he=>by
   have hlt := hB.back p _ (Array.getElem?_eq_getElem hp) e he
   cases hh : listed.getD e false with
   |true=>rfl
   |false=>have := hmin e ⟨by omega,hh⟩; omega⟩
  have hwhole : (∀ j,j < m → listed.getD j false = true) → wpAny c.P .any ops (fun e a' w'=>Ok N X0 M w0 (K e) a' w') (fuel + 1) listed a w := fun hbefore=>by
   have hl : ∀ j,j < ops.size → listed.getD j false = decide (j < m) := fun j hj=>by
    rcases Nat.lt_or_ge j m with h|h
    ·rw [hbefore j h]; simp [h]
    ·rw [hsuf j h hj]; simp; omega
   have hcount : fuel + 1 = ops.size - m := by
    rw [hf]
    have : (List.range ops.size).countP (fun j=>!listed.getD j false) = (List.range ops.size).countP (fun j=>decide (m ≤ j)) := by
     apply List.countP_congr
     intro j hj
     rw [hl j (List.mem_range.1 hj)]
     simp
    rw [this]
    have key : ∀ n,(List.range n).countP (fun j=>decide (m ≤ j)) = n - m := by
     intro n
     induction n with
     |zero=>simp
     |succ n ihn =>
      rw [List.range_succ,List.countP_append,ihn]
      by_cases hh : m ≤ n
      ·simp [hh]; omega
      ·simp [hh]; omega
    exact key _
   exact hlast (fuel + 1) listed st' β a w (by have := hB.le; omega) hsz hcl hl hs I1 I2 I3 I4 I5
  refine ⟨fun h=>(by rw [h] at hrdy; cases hrdy),fun i hi=>?_⟩
  obtain ⟨h1,h2,o,hoi,h3⟩ := mem_ready'.1 hi
  rw [hgT i h1] at h2
  rcases Nat.lt_or_ge i m with him|him
  ·-- one of the first m
   obtain ⟨hd,hlks,hok⟩ := hF i o him hoi
   have hanc := hcl.anc hB hoi h3
   have hGx : ∀ d,(∃ j,j < m ∧ listed.getD j false = true ∧ d ∈ (fpAt fl j).gn) → d ∈ (fpAt fl i).gx := fun d ⟨j,hj,hlj,hd⟩ =>
    hB.gx i j him hj (fun e=>by subst e; rw [h2] at hlj; cases hlj) (fun ha=>by have := hcl j (by have := hB.le; omega) hlj i ha; rw [h2] at this; cases this) d hd
   have hWf : ∀ t x,lk t (base.least ((List.range i).map fun q=>(q,F q)) (fpAt fl i)).fr = some x → lk t st'.fr = some x := fun t x hx=>by
    obtain ⟨e1,e2⟩ := hide_fr hx
    have hG : ∀ d,(∃ j,j < m ∧ listed.getD j false = true ∧ d ∈ (fpAt fl j).gn) → x.kill d = x := fun d hd=>e2 d (hGx d hd)
    rcases lk_app e1 with e1|e1
    ·have hm := lk_mem e1
     obtain ⟨e,he,e3⟩ := List.mem_map.1 hm
     obtain ⟨he1,he2⟩ := List.mem_filter.1 he
     obtain ⟨k,hk,rfl⟩ := List.mem_map.1 he1
     injection e3 with e4 e5
     subst e4 e5
     exact I2 k (by have := List.mem_range.1 hk; omega) (hanc k (List.contains_iff_mem.1 he2)) hG
    ·exact I1 t x e1 hG
   have hWh : ∀ id ob,lk id (base.least ((List.range i).map fun q=>(q,F q)) (fpAt fl i)).hp = some ob → lk id st'.hp = some ob := fun id ob hx=>by
    obtain ⟨e1,e2⟩ := hide_hp hx
    have hG : ∀ d,(∃ j,j < m ∧ listed.getD j false = true ∧ d ∈ (fpAt fl j).gn) → d ≠ id ∧ ob.kill d = ob := fun d hd=>e2 d (hGx d hd)
    rcases lk_app e1 with e1|e1
    ·obtain ⟨e,he,e3⟩ := lk_flatMap e1
     obtain ⟨he1,he2⟩ := List.mem_filter.1 he
     obtain ⟨k,hk,rfl⟩ := List.mem_map.1 he1
     exact I4 k (by have := List.mem_range.1 hk; omega) (hanc k (List.contains_iff_mem.1 he2)) id ob e3 hG
    ·exact I3 id ob e1 hG
   have hd' : st'.dlt c.tys c.C N ops o (F i).1 (F i).2 := dlt_mono (fun t ht=>by
    have := List.all_eq_true.1 hlks t (hB.looks i o him hoi t ht)
    obtain ⟨x,hx⟩ := Option.isSome_iff_exists.1 this
    unfold St.get
    rw [hx,hWf t x hx]) hWh hd
   have hst := dlt_sound (Q := fun e a' w'=>Ok N X0 M w0 (K e) a' w') hAp c.hty c.hC hs (ops := ops) hd'
   obtain ⟨k1,k2,k3,k4⟩ := hok
   have hids : (F i).2.ids = (fpAt fl i).mks ++ (fpAt fl i).gn:=by unfold Dl.ids; rw [k1,k2]
   have hmade : ∀ id,id ∉ (fpAt fl i).mks → lk id (F i).2.made = none := fun id hid=>lk_none (by rw [k2]; exact hid)
   have havk : ∀ k,k < m → k ≠ i → listed.getD k false = true → ∀ d ∈ (fpAt fl i).mks,d ∈ (fpAt fl k).av := fun k hk hne hlk d hd =>
    hB.av k i hk him (Ne.symm hne) (fun ha=>by have := hcl k (by have := hB.le; omega) hlk i ha; rw [h2] at this; cases this) d hd
   have hG' : ∀ {Q : Nat → Prop},(∀ d,(∃ j,j < m ∧ (listed.setIfInBounds i true).getD j false = true ∧ d ∈ (fpAt fl j).gn) → Q d) → (∀ d,(∃ j,j < m ∧ listed.getD j false = true ∧ d ∈ (fpAt fl j).gn) → Q d) ∧ ∀ d ∈ (fpAt fl i).gn,Q d := fun {Q} hq =>
    ⟨fun d ⟨j,hj,hlj,hd⟩=>hq d ⟨j,hj,by rw [getD_set _ _ _ _ (by omega)]; split <;> first|rfl|exact hlj,hd⟩,fun d hd=>hq d ⟨i,him,by rw [getD_set _ _ _ _ (by omega),if_pos rfl],hd⟩⟩
   have hnext : ∀ a' w',Ok N X0 M w0 (fun st2=>st2 = st'.dapp (F i).1 (F i).2) a' w' → wpAny c.P .any ops (fun e a' w'=>Ok N X0 M w0 (K e) a' w') fuel (listed.setIfInBounds i true) a' w' := fun a' w' hk=>by
    obtain ⟨st2,β',rfl,h5⟩ := hk
    refine ih _ _ β' a' w' (by simpa using hsz) (fun j hj hjn=>?_) ?_ (hcl.step hB hsz hoi h3) h5 (fun t x hx hG=>?_) (fun k hk hlk hG=>?_) (fun id ob hx hG=>?_) (fun k hk hlk id ob hx hG=>?_) ?_
    ·rw [getD_set _ _ _ _ (by omega),if_neg (by omega)]; exact hsuf j hj hjn
    ·have := count_set hsz h1 h2; omega
    ·obtain ⟨g1,g2⟩ := hG' hG
     obtain ⟨q1,q2⟩ := hb1 t x hx
     have hne : t ≠ (F i).1 := fun e=>q1 i him (by rw [hdst i him,e])
     simp only [St.dapp,lk,if_neg hne,lk_er_ne hne]
     refine killL_keep (fun d hd=>?_) (I1 t x hx g1)
     rw [hids] at hd
     rcases List.mem_append.1 hd with h|h
     ·exact q2 i him d h
     ·exact g2 d h
    ·obtain ⟨g1,g2⟩ := hG' hG
     by_cases hki : k = i
     ·subst hki; simp [St.dapp,lk]
     ·rw [getD_set _ _ _ _ (by omega),if_neg hki] at hlk
      have hne : (F k).1 ≠ (F i).1 := fun e=>hB.apart i k him hk (Ne.symm hki) (by rw [hdst i him,hdst k hk,e])
      simp only [St.dapp,lk,if_neg hne,lk_er_ne hne]
      refine killL_keep (fun d hd=>?_) (I2 k hk hlk g1)
      rw [hids] at hd
      rcases List.mem_append.1 hd with h|h
      ·have hks : k < ops.size:=by have := hB.le; omega
       exact refs_kill (havk k hk hki hlk d h) (hF k _ hk (Array.getElem?_eq_getElem hks)).2.2.2.2.1
      ·exact g2 d h
    ·obtain ⟨g1,g2⟩ := hG' hG
     have q := hb2 id ob hx i him
     have hnm : id ∉ (fpAt fl i).mks := fun hin=>(q id hin).1 rfl
     show lk id ((F i).2.made ++ _) = _
     rw [lk_append,hmade id hnm]
     refine killL_keepO (fun d hd=>?_) (I3 id ob hx g1)
     rw [hids] at hd
     rcases List.mem_append.1 hd with h|h
     ·exact q d h
     ·exact g2 d h
    ·obtain ⟨g1,g2⟩ := hG' hG
     show lk id ((F i).2.made ++ _) = _
     by_cases hki : k = i
     ·subst hki; rw [lk_append,hx]; rfl
     ·rw [getD_set _ _ _ _ (by omega),if_neg hki] at hlk
      have hks : k < ops.size:=by have := hB.le; omega
      have hokk := (hF k _ hk (Array.getElem?_eq_getElem hks)).2.2
      have hidk : id ∈ (fpAt fl k).mks:=by rw [← hokk.2.1]; exact List.mem_map.2 ⟨(id,ob),lk_mem hx,rfl⟩
      have hnm : id ∉ (fpAt fl i).mks := hB.mks i k him hk hki id hidk
      rw [lk_append,hmade id hnm]
      refine killL_keepO (fun d hd=>?_) (I4 k hk hlk id ob hx g1)
      rw [hids] at hd
      rcases List.mem_append.1 hd with h|h
      ·refine ⟨fun e=>hnm (e ▸ h),Ob.refs_kill (havk k hk hki hlk d h) ?_⟩
       have := List.all_eq_true.1 hokk.2.2.2 (id,ob) (lk_mem hx)
       simpa using this
      ·exact g2 d h
    ·obtain ⟨ob5,g5,g7,g6⟩ := I5
     have key : ∀ ids : List Nat,cc ∉ ids → (∀ d ∈ ids,d ∈ js) → ∃ ob',lk cc (st'.killL ids).hp = some ob' ∧ ob'.bx = true ∧ ob'.jk js = obJ := by
      intro ids
      induction ids with
      |nil=>exact fun _ _=>⟨ob5,g5,g7,g6⟩
      |cons d l ihl =>
       intro hn hj
       obtain ⟨o1,o2,o4,o3⟩ := ihl (fun h=>hn (List.mem_cons_of_mem _ h)) fun e he=>hj e (List.mem_cons_of_mem _ he)
       refine ⟨o1.kill d,?_,(Ob.jk_kill (hj d List.mem_cons_self) o4).2,by rw [(Ob.jk_kill (hj d List.mem_cons_self) o4).1]; exact o3⟩
       rw [show St.killL st' (d :: l) = (st'.killL l).kill d from rfl,lk_kill_ne (fun e=>hn (by rw [e]; exact List.mem_cons_self)),o2]; rfl
     obtain ⟨o1,o2,o4,o3⟩ := key ((fpAt fl i).mks ++ (fpAt fl i).gn) (fun h=>(List.mem_append.1 h).elim (hcc i him).1 (hcc i him).2) fun d hd=>hjs i him d (List.mem_append.1 hd)
     refine ⟨o1,?_,o4,o3⟩
     show lk cc ((F i).2.made ++ _) = _
     rw [lk_append,hmade cc (hcc i him).1,hids]; exact o2
   unfold wpOp
   rw [hoi]
   simp only
   split
   ·rename_i hw; rw [if_pos hw] at hst; exact .inl (Oper.wp_mono hnext hst)
   ·rename_i hw; rw [if_neg hw] at hst; exact hnext _ _ hst
  ·-- all of the first m have come up
   exact (hwhole fun j hj=>hcl.anc hB hoi h3 j (hB.tail i o him hoi j (by omega))).2 i hi
theorem WP.flowB (cc : Nat) {id : Nat} {l : List Oper} {st : St} (m : Nat) (fl : List Fp) (ds mks gs : List Nat) (hB : flowB l.toArray m fl = true)
  (hD : ((List.range m).all fun k=>match dstAt l.toArray k with|some d=>ds.contains d|none=>false) = true)
  (hM : ((List.range m).all fun k=>((fpAt fl k).mks.all fun d=>mks.contains d) && ((fpAt fl k).gn.all fun d=>gs.contains d)) = true) (hm : c.P.follows .mixedOrders = true) (hcc : (mks ++ gs).contains cc = false)
  (h : (st.clean ds mks).hasO cc fun cur=>cur.bx = true ∧ St.runG c.tys c.C N l.toArray fl (st.clean ds mks) (l.take m) 0 [] fun acc=>St.runR c.tys c.C N l.toArray (l.drop m) (((st.clean ds mks).final acc gs).setO cc (cur.jk (mks ++ gs))) (K .normal)) : WP c N X0 M w0 (.region id l.toArray true) st K := by
 intro hA β a w hs
 have hD0 := flowB_ok hB
 unfold St.hasO at h
 split at h
 case h_2=>exact h.elim
 case h_1 _ cur hcur =>
 obtain ⟨hbx,h⟩ := h
 obtain ⟨F,h1,h2⟩ := runF_acc _ _ _ (runF_of_runG _ _ _ h)
 have hlen : (l.take m).length = m := by
  have := hD0.le
  simp at this ⊢
  omega
 rw [hlen] at h1
 simp only [List.nil_append,Nat.zero_add] at h1 h2
 have hcl0 : ∀ t x,lk t (st.clean ds mks).fr = some x → lk t st.fr = some x ∧ t ∉ ds ∧ ∀ d ∈ mks,x.kill d = x := fun t x hx=>by
  obtain ⟨e1,e2⟩ := hide_fr hx
  obtain ⟨e3,e4⟩ := offK_lk e1
  exact ⟨e3,e4,e2⟩
 have hMk : ∀ k,k < m → (∀ d ∈ (fpAt fl k).mks,d ∈ mks) ∧ ∀ d ∈ (fpAt fl k).gn,d ∈ gs := fun k hk=>by
  have := List.all_eq_true.1 hM k (List.mem_range.2 hk)
  simp only [Bool.and_eq_true,List.all_eq_true] at this
  exact ⟨fun d hd=>List.contains_iff_mem.1 (this.1 d hd),fun d hd=>List.contains_iff_mem.1 (this.2 d hd)⟩
 refine wp_region_any hm (flow_headB (c := c) (K := K) (cc := cc) (obJ := cur.jk (mks ++ gs)) (js := mks ++ gs) (fun k hk=>?_) (fun k hk d hd=>?_) hA hD0 (base := st.clean ds mks) (F := F) (gs := gs) (fun k o hk ho=>?_) (fun t x hx=>⟨fun k hk e=>?_,fun k hk d hd=>(hcl0 t x hx).2.2 d ((hMk k hk).1 d hd)⟩) (fun t ob hx k hk d hd=>(hide_hp hx).2 d ((hMk k hk).1 d hd)) (fun k hk=>(hMk k hk).2) ?_
  l.toArray.size (Array.replicate l.toArray.size false) (st.clean ds mks) β a _ (by simp) (fun j _ hj=>?_) ?_ (fun b hb hl=>?_) ?_ (fun t x hx _=>hx) (fun k hk hl=>?_) (fun t ob hx _=>hx) (fun k hk hl=>?_) ⟨cur,hcur,hbx,rfl⟩)
 ·have hn : cc ∉ mks ++ gs := fun h=>by rw [List.contains_iff_mem.2 h] at hcc; cases hcc
  exact ⟨fun h=>hn (List.mem_append_left _ ((hMk k hk).1 cc h)),fun h=>hn (List.mem_append_right _ ((hMk k hk).2 cc h))⟩
 ·rcases hd with hd|hd
  ·exact List.mem_append_left _ ((hMk k hk).1 d hd)
  ·exact List.mem_append_right _ ((hMk k hk).2 d hd)
 ·have : (l.take m)[k]? = some o:=by rw [List.getElem?_take_of_lt hk]; simpa using ho
  exact h2 k o this
 ·have := List.all_eq_true.1 hD k (List.mem_range.2 hk)
  rw [e] at this
  exact (hcl0 t x hx).2.1 (List.contains_iff_mem.1 this)
 ·exact h1
 ·rw [Array.getD_eq_getD_getElem?,Array.getElem?_replicate]; split <;> rfl
 ·have : (List.range l.toArray.size).countP (fun j=>!(Array.replicate l.toArray.size false).getD j false) = (List.range l.toArray.size).countP (fun _=>true) := by
   apply List.countP_congr
   intro j hj
   rw [Array.getD_eq_getD_getElem?,Array.getElem?_replicate]; split <;> simp
  rw [this]; simp
 ·rw [Array.getD_eq_getD_getElem?,Array.getElem?_replicate] at hl
  split at hl <;> cases hl
 ·exact (hs.grow ((Go.RowKit.Below.refl _ _).drew) (fun b _ hb=>.inl hb) hs.x0).less (fun t x hx=>(hcl0 t x hx).1) (fun t ob hx=>(hide_hp hx).1)
 ·rw [Array.getD_eq_getD_getElem?,Array.getElem?_replicate] at hl
  split at hl <;> cases hl
 ·rw [Array.getD_eq_getD_getElem?,Array.getElem?_replicate] at hl
  split at hl <;> cases hl
end
end Go.Vc

namespace Go.Proofs.YtjjbcoigaejoaaaGreat
open Go.Vc
attribute [local irreducible] Go.Vc.WP
attribute [local go_sem] cx0_t cx0_c
def fl456db1da2d : List Go.Vc.Fp := [⟨[0],[],[25,26,31],[26,31,33,34,35,36],[],[]⟩,⟨[0],[],[26,31],[26,31,33,34,35,36],[],[]⟩,⟨[21],[1],[26,31],[26,31,33,34,35,36],[],[]⟩,⟨[22],[1,2],[26,31],[26,31,33,34,35,36],[],[]⟩,⟨[23],[1,2,3],[26,31],[26,31,33,34,35,36],[],[]⟩,⟨[24],[1,2,3,4],[26,31],[26,31,33,34,35,36],[],[]⟩,⟨[],[],[],[31,33,34,35,36],[],[26]⟩,⟨[0],[],[],[26,31,33,34,35,36],[],[]⟩,⟨[27],[7],[],[26,31,33,34,35,36],[],[]⟩,⟨[28],[7,8],[],[26,31,33,34,35,36],[],[]⟩,⟨[29],[7,8,9],[],[26,31,33,34,35,36],[],[]⟩,⟨[26,30],[6,7,8,9,10],[],[33,34,35,36],[26],[31]⟩,⟨[1],[],[26],[26,31,33,34,35,36],[],[]⟩,⟨[32],[12],[26],[26,31,34,35,36],[],[33]⟩,⟨[31,33],[6,7,8,9,10,11,12,13],[26],[35,36],[31],[34]⟩,⟨[34],[6,7,8,9,10,11,12,13,14],[26,31],[36],[],[35]⟩,⟨[25,35],[1,2,3,4,5,6,7,8,9,10,11,12,13,14,15],[26,31],[],[25],[36]⟩,⟨[],[0,1,2,3,4,5,6,7,8,9,10,11,12,13,14,15,16],[],[],[],[]⟩,⟨[],[0,1,2,3,4,5,6,7,8,9,10,11,12,13,14,15,16,17],[],[],[],[]⟩,⟨[],[0,1,2,3,4,5,6,7,8,9,10,11,12,13,14,15,16,17,18],[],[],[],[]⟩,⟨[],[0,1,2,3,4,5,6,7,8,9,10,11,12,13,14,15,16,17,18,19],[],[],[],[]⟩]
def fldecb57ae8e : List Go.Vc.Fp := [⟨[0],[],[26,31,34,35,800002],[26,31,33,34,35,36],[],[]⟩,⟨[0],[],[26,31,34],[26,31,33,34,35,36],[],[]⟩,⟨[21],[1],[26,31,34],[26,31,33,34,35,36],[],[]⟩,⟨[22],[1,2],[26,31,34],[26,31,33,34,35,36],[],[]⟩,⟨[23],[1,2,3],[26,31,34],[26,31,33,34,35,36],[],[]⟩,⟨[24],[1,2,3,4],[26,31,34],[26,31,33,34,35,36],[],[]⟩,⟨[],[],[],[31,33,34,35,36],[],[26]⟩,⟨[0],[],[],[26,31,33,34,35,36],[],[]⟩,⟨[27],[7],[],[26,31,33,34,35,36],[],[]⟩,⟨[28],[7,8],[],[26,31,33,34,35,36],[],[]⟩,⟨[29],[7,8,9],[],[26,31,33,34,35,36],[],[]⟩,⟨[26,30],[6,7,8,9,10],[],[33,34,35,36],[26],[31]⟩,⟨[1],[],[26],[26,31,33,34,35,36],[],[]⟩,⟨[32],[12],[26],[26,31,34,35,36],[],[33]⟩,⟨[31,33],[6,7,8,9,10,11,12,13],[26],[35,36],[31],[34]⟩,⟨[34],[6,7,8,9,10,11,12,13,14],[26,31],[36],[34],[35]⟩,⟨[25,35],[1,2,3,4,5,6,7,8,9,10,11,12,13,14,15],[26,31,34],[],[800002,35],[36]⟩,⟨[],[0,1,2,3,4,5,6,7,8,9,10,11,12,13,14,15,16],[],[],[],[]⟩,⟨[],[0,1,2,3,4,5,6,7,8,9,10,11,12,13,14,15,16,17],[],[],[],[]⟩,⟨[],[0,1,2,3,4,5,6,7,8,9,10,11,12,13,14,15,16,17,18],[],[],[],[]⟩,⟨[],[0,1,2,3,4,5,6,7,8,9,10,11,12,13,14,15,16,17,18,19],[],[],[],[]⟩]
attribute [local go_sem] fl456db1da2d fldecb57ae8e
attribute [local go_sem] decLine_enc decI_enc decVl_enc rs_eta headsBy innersBy llX lmX St.callX St.panOf St.callLG ctrs St.isX St.stepP runS retY St.fzS addL behind ghoK St.gho St.gh SV.flat St.hasO St.setO Ob.jk SV.jk Ob.bx
theorem rowI_ln {L : List Int} {r : List SV} (h : r ∈ L.map encI) : r.length = 1:=by obtain ⟨n,_,rfl⟩ := List.mem_map.1 h; rfl
theorem rowI_v {L : List Int} {a : Value} {row : List SV} {c : SV} (h : row ∈ L.map encI ++ [[.v a]]) (hc : c ∈ row) : ∃ x,c = SV.v x := by
 rcases List.mem_append.1 h with h|h
 ·obtain ⟨n,_,rfl⟩ := List.mem_map.1 h
  simp only [encI,List.mem_cons,List.not_mem_nil,or_false] at hc; exact ⟨_,hc⟩
 ·simp only [List.mem_cons,List.not_mem_nil,or_false] at h; subst h
  simp only [List.mem_cons,List.not_mem_nil,or_false] at hc; exact ⟨_,hc⟩
def obS (P : List Line) (lim : Nat) (s : RS) : List (Nat × Ob) := [(1000000,.box 86 [.sl 4 (P.map encLine),.v (.int .i64 (lim : Nat)),.own 900000,.own 900001,.v (.int .i64 0),.v (.int .i64 0),.own 900002]),(900000,.sl 3 1 (s.out.map encI)),(900001,.dp 27 1 (s.vis.map encVl)),(900002,.sl 3 1 (s.calls.map encI))]
def rbS (s : RS) : List (Nat × Ob) := [(800001,.sl 3 1 (s.out.map encI)),(800002,.dp 27 1 (s.vis.map encVl)),(800003,.sl 3 1 (s.calls.map encI))]
def kpS (P : List Line) (lim : Nat) (code : Int) : List (Nat × Ob) := [(1000000,.box 86 [.sl 4 (P.map encLine),.v (.int .i64 (lim : Nat)),.own 800001,.own 800002,.v (.int .i64 0),.v (.int .i64 code),.own 800003])]
abbrev RX := List Line × Nat × RS
def decS0 (obs : List (Nat × Ob)) : RX := match oC obs 1000000 with
 | [.sl _ r,.v (.int _ n),_,_,_,_,_]=>(decLine r,n.toNat,⟨decI (oR obs 900000),decVl (oD obs 900001),decI (oR obs 900002)⟩)
 | _=>([],0,⟨[],[],[]⟩)
attribute [local go_sem] obS rbS kpS decS0 yen
def kVisS : Ctx := yen [0] (fun args obs=>(decS0 obs,(aI args 1).toNat)) (fun x=>[.ptr 1000000 0 0 0,.v (.int .i64 (x.2 : Nat))]) (fun x=>obS x.1.1 x.1.2.1 x.1.2.2) (fun x=>RsOk x.1.2.1 x.1.2.2) (fun _=>none)
 (fun x=>.v (.bool (decide (¬ x.1.2.1 ≤ x.1.2.2.vis.length)))) (fun x=>rbS (if x.1.2.1 ≤ x.1.2.2.vis.length then x.1.2.2 else visit1 x.1.2.2 x.2)) (fun x=>kpS x.1.1 x.1.2.1 (if x.1.2.1 ≤ x.1.2.2.vis.length then 1 else 0))
section
noncomputable def cxVisS := mkX [] (COk.nil _)
theorem cxVisS_t : cxVisS.tys = tys := rfl
theorem cxVisS_c : cxVisS.C = [] := rfl
attribute [local go_sem] cxVisS_t cxVisS_c
theorem cVisS : Cy Tryz.prog 77 kVisS := by
 refine Cy.yen Tryz.func77 (by kernel_rfl) rfl fun x hx=>?_
 obtain ⟨⟨P,lim,s⟩,k⟩ := x
 simp only at hx ⊢
 obtain ⟨h1,h2,h3,h4⟩ := hx
 obtain ⟨so,sv,sc⟩ := s
 simp only at h2 h3 h4 ⊢
 refine HoldsY.go (c := cxVisS) Tryz.func77 rfl Tryz.results77 Tryz.ntmps77 (by omega) (by simp) ?_ ?_ ?_
 rotate_right
 intro X0 M w0
 ·refine zP [] [(900000,800001),(900001,800002),(900002,800003)] rfl ?_
  simp only [go_sem]
  by_cases hl : lim ≤ sv.length
  ·have hle : (sv.length : Int) = (lim : Nat):=by omega
   simp only [if_pos hl,decide_not,decide_eq_true hl]
   (repeat' (first|apply zS|apply zB|((first|apply zR|apply zC|apply zT|apply zE|apply zK| refine zF 17 fl456db1da2d [20,21,22,23,24,25,26,27,28,29,30,31,32,33,34,35,36] [26,31,33,34,35,36] [25,26,31] (by decide +kernel) (by kernel_rfl) (by kernel_rfl) (by kernel_rfl) ?_|refine zD 11 (by decide +kernel) (by kernel_rfl) ?_); simp only [go_sem,hle])|apply And.intro|intro _))
   all_goals first|omega|rfl|skip
  ·have hle : ¬ (sv.length : Int) = (lim : Nat):=by omega
   simp only [if_neg hl,decide_not,decide_eq_false hl]
   (repeat' ((fail_if_success refine WP.atReg (b := 5) ?_); first|apply zS|apply zB|((first|refine WP.flowB 1000000 17 [⟨[0],[],[26,31,34,35,800002],[26,31,33,34,35,36],[],[]⟩,⟨[0],[],[26,31,34],[26,31,33,34,35,36],[],[]⟩,⟨[21],[1],[26,31,34],[26,31,33,34,35,36],[],[]⟩,⟨[22],[1,2],[26,31,34],[26,31,33,34,35,36],[],[]⟩,⟨[23],[1,2,3],[26,31,34],[26,31,33,34,35,36],[],[]⟩,⟨[24],[1,2,3,4],[26,31,34],[26,31,33,34,35,36],[],[]⟩,⟨[],[],[],[31,33,34,35,36],[],[26]⟩,⟨[0],[],[],[26,31,33,34,35,36],[],[]⟩,⟨[27],[7],[],[26,31,33,34,35,36],[],[]⟩,⟨[28],[7,8],[],[26,31,33,34,35,36],[],[]⟩,⟨[29],[7,8,9],[],[26,31,33,34,35,36],[],[]⟩,⟨[26,30],[6,7,8,9,10],[],[33,34,35,36],[26],[31]⟩,⟨[1],[],[26],[26,31,33,34,35,36],[],[]⟩,⟨[32],[12],[26],[26,31,34,35,36],[],[33]⟩,⟨[31,33],[6,7,8,9,10,11,12,13],[26],[35,36],[31],[34]⟩,⟨[34],[6,7,8,9,10,11,12,13,14],[26,31],[36],[34],[35]⟩,⟨[25,35],[1,2,3,4,5,6,7,8,9,10,11,12,13,14,15],[26,31,34],[],[800002,35],[36]⟩,⟨[],[0,1,2,3,4,5,6,7,8,9,10,11,12,13,14,15,16],[],[],[],[]⟩,⟨[],[0,1,2,3,4,5,6,7,8,9,10,11,12,13,14,15,16,17],[],[],[],[]⟩,⟨[],[0,1,2,3,4,5,6,7,8,9,10,11,12,13,14,15,16,17,18],[],[],[],[]⟩,⟨[],[0,1,2,3,4,5,6,7,8,9,10,11,12,13,14,15,16,17,18,19],[],[],[],[]⟩] [20,21,22,23,24,25,26,27,28,29,30,31,32,33,34,35,36] [26,31,33,34,35,36] [26,31,34,35,800002] (by decide +kernel) (by kernel_rfl) (by kernel_rfl) (by kernel_rfl) (by decide) ?_); simp only [go_sem,hle])|((first|apply zR|apply zC|apply zT|apply zE|apply zK| refine zF 17 fldecb57ae8e [20,21,22,23,24,25,26,27,28,29,30,31,32,33,34,35,36] [26,31,33,34,35,36] [26,31,34,35,800002] (by decide +kernel) (by kernel_rfl) (by kernel_rfl) (by kernel_rfl) ?_|refine zD 11 (by decide +kernel) (by kernel_rfl) ?_); simp only [go_sem,hle])|apply And.intro|intro _))
   all_goals first|omega|rfl|exact rowI_ln ‹_›|exact rowI_v (by assumption) (by assumption)|skip
   refine zP [] [(36,800002)] rfl ?_
   (repeat' (first|apply zS|apply zB|((first|apply zR|apply zC|apply zT|apply zE|apply zK| refine zF 17 fl456db1da2d [20,21,22,23,24,25,26,27,28,29,30,31,32,33,34,35,36] [26,31,33,34,35,36] [25,26,31] (by decide +kernel) (by kernel_rfl) (by kernel_rfl) (by kernel_rfl) ?_|refine zD 11 (by decide +kernel) (by kernel_rfl) ?_); simp only [go_sem,visit1,List.map_append,encVl,encI])|apply And.intro|intro _))
   all_goals first|omega|rfl|skip
 ·rfl
 ·intro h; cases h
end
end Go.Proofs.YtjjbcoigaejoaaaGreat

namespace Go.Proofs.YtjjbcoigaejoaaaGreat
open Go.Vc
attribute [local irreducible] Go.Vc.WP
attribute [local go_sem] cx0_t cx0_c
attribute [local go_sem] decS_enc decTok_enc decLine_enc oneLine_f line_eta St.fzS addL behind St.runO St.stepO
attribute [local go_sem] aPk
section
noncomputable def cxOpnS := mkX [] (COk.nil _)
theorem cxOpnS_t : cxOpnS.tys = tys := rfl
theorem cxOpnS_c : cxOpnS.C = [] := rfl
attribute [local go_sem] cxOpnS_t cxOpnS_c
theorem cOpensS : Cn Tryz.prog 96 kOpens := by
 refine Cn.pur Tryz.func96 (by kernel_rfl) rfl fun d x hx=>?_
 rename Int=>k
 refine Holds.go (c := cxOpnS) Tryz.func96 rfl Tryz.results96 Tryz.ntmps96 (by omega) (by simp) rfl ?_
 intro X0 w0
 by_cases h0 : k = 0
 ·have ho : opensK k = true:=by rw [h0]; rfl
  rw [ho]
  (repeat' (first|apply zS|apply zB|((first|apply zR|apply zC|apply zT|apply zE|apply zK);simp only [go_sem,h0])|apply And.intro|intro _))
  all_goals first|omega|rfl|skip
 by_cases h3 : k = 3
 ·have ho : opensK k = true:=by rw [h3]; rfl
  rw [ho]
  (repeat' (first|apply zS|apply zB|((first|apply zR|apply zC|apply zT|apply zE|apply zK);simp only [go_sem,h3])|apply And.intro|intro _))
  all_goals first|omega|rfl|skip
 by_cases h5 : k = 5
 ·have ho : opensK k = true:=by rw [h5]; rfl
  rw [ho]
  (repeat' (first|apply zS|apply zB|((first|apply zR|apply zC|apply zT|apply zE|apply zK);simp only [go_sem,h5])|apply And.intro|intro _))
  all_goals first|omega|rfl|skip
 rw [opensK_f h0 h3 h5]
 (repeat' (first|apply zS|apply zB|((first|apply zR|apply zC|apply zT|apply zE|apply zK);simp only [go_sem,h0,h3,h5])|apply And.intro|intro _))
 all_goals first|omega|rfl|(simp [h0,h3,h5]; done)|skip
end
section
noncomputable def cxBlkS := mkX [(96,kOpens)] (COk.cons cOpensS (COk.nil _))
theorem cxBlkS_t : cxBlkS.tys = tys := rfl
theorem cxBlkS_c : cxBlkS.C = [(96,kOpens)] := rfl
attribute [local go_sem] cxBlkS_t cxBlkS_c kOpens
set_option maxHeartbeats 4000000
theorem cBlkS : Cn Tryz.prog 73 kBlk := by
 refine Cn.pur Tryz.func73 (by kernel_rfl) rfl fun d x hx=>?_
 obtain ⟨P,k⟩ := x
 simp only at hx ⊢
 refine Holds.go (c := cxBlkS) Tryz.func73 rfl Tryz.results73 Tryz.ntmps73 (by omega) (by simp) rfl ?_
 intro X0 w0
 have lk0 : lk 0 tys = none := rfl
 by_cases hk0 : 0 ≤ k
 rotate_left
 ·rw [endOf_out (P := P) fun q=>hk0 q.1]
  have hk : k < 0:=by omega
  (repeat' (first|apply zS|apply zB|((first|refine WP.regionO (id := 1) ?_); simp only [go_sem,hk])|((first|apply zR|apply zC|apply zT|apply zE|apply zK);simp only [go_sem,hk])|apply And.intro|intro _))
  all_goals first|omega|rfl|skip
 by_cases hk1 : k < P.length
 rotate_left
 ·rw [endOf_out (P := P) fun q=>hk1 q.2]
  have hk : (P.length : Int) ≤ k:=by omega
  have hkm : ¬ k < 0:=by omega
  have hr0 : Go.Vc.rowAt (P.map encLine) k.toNat = [] := by
   unfold Go.Vc.rowAt
   rw [List.getElem?_eq_none (by rw [List.length_map]; omega)]; rfl
  (repeat' (first|apply zS|apply zB|((first|refine WP.regionO (id := 1) ?_); simp only [go_sem,hk0,hk,hkm,hr0])|((first|apply zR|apply zC|apply zT|apply zE|apply zK);simp only [go_sem,hk0,hk,hkm,hr0])|apply And.intro|intro _))
  all_goals first|omega|rfl|skip
 obtain ⟨n,rfl⟩ := Int.eq_ofNat_of_zero_le hk0
 have hn : n < P.length:=by omega
 have h1 := rowAt_map encLine P n hn
 have b1 : ¬ (P.length : Int) ≤ (n : Int):=by omega
 have b0 : ¬ (n : Int) < 0:=by omega
 rw [endOf_in hn]
 cases ho : opensK P[n].kind with
 |false =>
  rw [if_neg (by simp)]
  (repeat' (first|apply zS|apply zB|((first|apply zR|apply zC|apply zT|apply zE|apply zK);simp only [go_sem,h1,encLine,ho,b0,b1])|apply And.intro|intro _))
  all_goals first|omega|rfl|skip
 |true =>
  rw [if_pos rfl]
  (repeat' (first|apply zS|apply zB|((first|apply zR|apply zC|apply zT|apply zE|apply zK);simp only [go_sem,h1,encLine,ho,b0,b1])|apply And.intro|intro _))
  all_goals first|omega|skip
  generalize hE : endFrom (P.drop n) n 0 = E
  refine zL (fun q : Nat × Int=>⟨[(0,.sl 4 (P.map encLine)),(5,.v (.int .i64 q.2)),(6,.v (.int .i64 q.1))],[]⟩)
   (fun q=>q.1 ≤ P.length ∧ -(q.1 : Int) ≤ q.2 ∧ q.2 ≤ q.1 ∧ endFrom (P.drop q.1) q.1 q.2 = E) (fun q=>P.length - q.1) (n,0) ⟨by omega,by simp only; omega,by simp only; omega,hE⟩ ?_ ?_
  ·(simp only [go_sem] <;> (first|(and_intros <;> rfl)|simp))
  rintro ⟨i,o⟩ ⟨hi,ho1,ho2,hF⟩
  simp only at hi ho1 ho2 hF ⊢
  by_cases hlt : i < P.length
  ·have hli : (i : Int) < P.length:=by omega
   have h2 := rowAt_map encLine P i hlt
   rw [endFrom_succ hlt] at hF
   rw [encLine] at h2
   generalize P[i].kind = kk at h2 hF
   cases hop : opensK kk with
   |true =>
    have h7 : ¬ kk = 7 := fun e=>by rw [e] at hop; cases hop
    rw [delta_open hop] at hF
    by_cases hz : o + 1 = 0
    ·rw [if_pos hz] at hF
     subst hF
     (repeat' (first|apply zS|apply zB|((first|apply zR|apply zC|apply zT|apply zE|apply zK);simp only [go_sem,hli,h2,hop,h7,hz])|apply And.intro|intro _))
     all_goals first|omega|rfl|skip
    ·rw [if_neg hz] at hF
     (repeat' (first|apply zS|apply zB|((first|apply zR|apply zC|apply zT|apply zE|apply zK);simp only [go_sem,hli,h2,hop,h7,hz])|apply And.intro|intro _))
     all_goals first|omega|exact ⟨(i + 1,o + 1),⟨by simp only; omega,by simp only; omega,by simp only; omega,hF⟩,by simp only; omega,by (first|(and_intros <;> rfl)|simp)⟩|skip
   |false =>
    by_cases h7 : kk = 7
    ·subst h7
     rw [delta_end] at hF
     by_cases hz : o - 1 = 0
     ·rw [if_pos (by omega)] at hF
      subst hF
      (repeat' (first|apply zS|apply zB|((first|apply zR|apply zC|apply zT|apply zE|apply zK);simp only [go_sem,hli,h2,hop,hz])|apply And.intro|intro _))
      all_goals first|omega|rfl|skip
     ·rw [if_neg (by omega)] at hF
      (repeat' (first|apply zS|apply zB|((first|apply zR|apply zC|apply zT|apply zE|apply zK);simp only [go_sem,hli,h2,hop,hz])|apply And.intro|intro _))
      all_goals first|omega|exact ⟨(i + 1,o - 1),⟨by simp only; omega,by simp only; omega,by simp only; omega,hF⟩,by simp only; omega,by (first|(and_intros <;> rfl)|simp)⟩|skip
    ·rw [delta_else hop h7,Int.add_zero] at hF
     by_cases hz : o = 0
     ·rw [if_pos hz] at hF
      subst hF
      (repeat' (first|apply zS|apply zB|((first|apply zR|apply zC|apply zT|apply zE|apply zK);simp only [go_sem,hli,h2,hop,h7,hz])|apply And.intro|intro _))
      all_goals first|omega|rfl|skip
     ·rw [if_neg hz] at hF
      (repeat' (first|apply zS|apply zB|((first|apply zR|apply zC|apply zT|apply zE|apply zK);simp only [go_sem,hli,h2,hop,h7,hz])|apply And.intro|intro _))
      all_goals first|omega|exact ⟨(i + 1,o),⟨by simp only; omega,by simp only; omega,by simp only; omega,hF⟩,by simp only; omega,by (first|(and_intros <;> rfl)|simp)⟩|skip
  ·have hge : ¬ (i : Int) < P.length:=by omega
   rw [endFrom_end hlt] at hF
   subst hF
   (repeat' (first|apply zS|apply zB|((first|apply zR|apply zC|apply zT|apply zE|apply zK);simp only [go_sem,hge])|apply And.intro|intro _))
   all_goals first|omega|rfl|skip
end
section
noncomputable def cxElsBS := mkX [(73,kBlk)] (COk.cons cBlkS (COk.nil _))
theorem cxElsBS_t : cxElsBS.tys = tys := rfl
theorem cxElsBS_c : cxElsBS.C = [(73,kBlk)] := rfl
attribute [local go_sem] cxElsBS_t cxElsBS_c kBlk
set_option maxHeartbeats 4000000
theorem cElseS : Cn Tryz.prog 76 kElse := by
 refine Cn.pur Tryz.func76 (by kernel_rfl) rfl fun d x hx=>?_
 obtain ⟨P,k⟩ := x
 simp only at hx ⊢
 refine Holds.go (c := cxElsBS) Tryz.func76 rfl Tryz.results76 Tryz.ntmps76 (by omega) (by simp) rfl ?_
 intro X0 w0
 have lk0 : lk 0 tys = none := rfl
 by_cases hneg : endOf P k < 0
 ·rw [elseOf_neg hneg]
  (repeat' (first|apply zS|apply zB|((first|refine WP.regionO (id := 2) ?_); simp only [go_sem,hneg])|((first|apply zR|apply zC|apply zT|apply zE|apply zK);simp only [go_sem,hneg])|apply And.intro|intro _))
  all_goals first|omega|rfl|skip
 have hin := endOf_opens (P := P) (k := k) (by omega)
 obtain ⟨n,rfl⟩ := Int.eq_ofNat_of_zero_le hin.1
 have hn : n < P.length:=by omega
 obtain ⟨e,he,hE,hne⟩ := endOf_nn (P := P) (k := n) (by omega)
 have hoK := hin.2.2
 rw [Int.toNat_natCast] at hoK
 have hel := hE.lt
 have h1 := rowAt_map encLine P n hn
 have he0 : ¬ (e : Int) < 0:=by omega
 by_cases h3 : P[n].kind = 3
 rotate_left
 ·rw [elseOf_kd hn h3]
  (repeat' (first|apply zS|apply zB|((first|apply zR|apply zC|apply zT|apply zE|apply zK);simp only [go_sem,h1,encLine,h3,he,he0])|apply And.intro|intro _))
  all_goals first|omega|rfl|skip
 rw [elseOf_go hn h3 he]
 (repeat' (first|apply zS|apply zB|((first|apply zR|apply zC|apply zT|apply zE|apply zK);simp only [go_sem,h1,encLine,h3,he,he0])|apply And.intro|intro _))
 all_goals first|omega|skip
 generalize hG : elseGo P e (n + 1) = G
 refine zL (fun i : Nat=>⟨[(0,.sl 4 (P.map encLine)),(5,.v (.int .i64 e)),(6,.v (.int .i64 i))],[]⟩)
  (fun i=>n < i ∧ i ≤ P.length ∧ elseGo P e i = G) (fun i=>P.length + 1 - i) (n + 1) ⟨by omega,by omega,hG⟩ ?_ ?_
 ·(simp only [go_sem] <;> (first|(and_intros <;> rfl)|simp))
 rintro i ⟨hi0,hi1,hF⟩
 by_cases hlt : i < e
 ·have hli : (i : Int) < (e : Int):=by omega
  have hiP : i < P.length:=by omega
  have h2 := rowAt_map encLine P i hiP
  rw [encLine] at h2
  have hkd := kd_lt hiP
  generalize P[i].kind = kk at h2 hkd
  by_cases h4 : kk = 4
  ·subst h4
   rw [elseGo_hit hlt hkd] at hF
   subst hF
   (repeat' (first|apply zS|apply zB|((first|apply zR|apply zC|apply zT|apply zE|apply zK);simp only [go_sem,hli,h2])|apply And.intro|intro _))
   all_goals first|omega|rfl|skip
  ·by_cases h35 : kk = 3 ∨ kk = 5
   ·have hopi : opensK (kd P i) = true := opensK_iff.2 (by rw [hkd]; omega)
    obtain ⟨e2,g1,g2,g3,g4⟩ := hE.nest hoK hi0 hlt hopi
    rw [elseGo_skip hlt (by rw [hkd]; exact h35) (by rw [g1]; omega),g1,Int.toNat_natCast] at hF
    have g5 : (0 : Int) ≤ (e2 : Int):=by omega
    rcases h35 with h35|h35
    ·subst h35
     (repeat' (first|apply zS|apply zB|((first|apply zR|apply zC|apply zT|apply zE|apply zK);simp only [go_sem,hli,h2,g1,g5])|apply And.intro|intro _))
     all_goals first|omega|exact ⟨e2 + 1,⟨by omega,by omega,hF⟩,by omega,by (first|(and_intros <;> rfl)|simp)⟩|skip
    ·subst h35
     (repeat' (first|apply zS|apply zB|((first|apply zR|apply zC|apply zT|apply zE|apply zK);simp only [go_sem,hli,h2,g1,g5])|apply And.intro|intro _))
     all_goals first|omega|exact ⟨e2 + 1,⟨by omega,by omega,hF⟩,by omega,by (first|(and_intros <;> rfl)|simp)⟩|skip
   ·rw [elseGo_next hlt (by rw [hkd]; exact h4) (fun q=>h35 (by rw [← hkd]; exact q.1))] at hF
    have n3 : ¬ kk = 3 := fun e=>h35 (.inl e)
    have n5 : ¬ kk = 5 := fun e=>h35 (.inr e)
    (repeat' (first|apply zS|apply zB|((first|apply zR|apply zC|apply zT|apply zE|apply zK);simp only [go_sem,hli,h2,h4,n3,n5])|apply And.intro|intro _))
    all_goals first|omega|exact ⟨i + 1,⟨by omega,by omega,hF⟩,by omega,by (first|(and_intros <;> rfl)|simp)⟩|skip
 ·have hge : ¬ (i : Int) < (e : Int):=by omega
  rw [elseGo_end hlt] at hF
  subst hF
  (repeat' (first|apply zS|apply zB|((first|apply zR|apply zC|apply zT|apply zE|apply zK);simp only [go_sem,hge])|apply And.intro|intro _))
  all_goals first|omega|rfl|skip
end
section
noncomputable def cxFunsS := mkX [] (COk.nil _)
theorem cxFunsS_t : cxFunsS.tys = tys := rfl
theorem cxFunsS_c : cxFunsS.C = [] := rfl
attribute [local go_sem] cxFunsS_t cxFunsS_c
theorem cFunsS : Cn Tryz.prog 70 kFuns := by
 refine Cn.pur Tryz.func70 (by kernel_rfl) rfl fun d x hx=>?_
 rename List Line=>P
 refine Holds.go (c := cxFunsS) Tryz.func70 rfl Tryz.results70 Tryz.ntmps70 (by omega) (by simp) rfl ?_
 intro X0 w0
 (repeat' (first|apply zS|apply zB|((first|apply zR|apply zC|apply zT|apply zE|apply zK);simp only [go_sem])|apply And.intro|intro _))
 all_goals first|omega|skip
 refine zL (fun i : Nat=>⟨[(0,.sl 4 (P.map encLine)),(3,.own 5),(4,.v (.int .i64 i))],[(5,.sl 3 1 ((funs P i).map encI))]⟩) (fun i=>i ≤ P.length) (fun i=>P.length - i) 0 (by simp) ?_ ?_
 ·(simp only [go_sem] <;> (first|(and_intros <;> rfl)|simp))
 intro i hi
 have hfl := funs_len P i
 have hfs := funs_succ P i
 by_cases hlt : i < P.length
 ·have hli : (i : Int) < P.length:=by omega
  have h2 := rowAt_map encLine P i hlt
  rw [encLine] at h2
  rw [kd_lt hlt] at hfs
  generalize P[i].kind = kk at h2 hfs
  by_cases h0 : kk = 0
  ·rw [if_pos h0] at hfs
   (repeat' (first|apply zS|apply zB|((first|apply zR|apply zC|apply zT|apply zE|apply zK);simp only [go_sem,hli,h2,h0])|apply And.intro|intro _))
   all_goals first|omega|exact ⟨i + 1,by omega,by omega,by rw [hfs,List.map_append]; (first|(and_intros <;> rfl)|simp)⟩|skip
  ·rw [if_neg h0,List.append_nil] at hfs
   (repeat' (first|apply zS|apply zB|((first|apply zR|apply zC|apply zT|apply zE|apply zK);simp only [go_sem,hli,h2,h0])|apply And.intro|intro _))
   all_goals first|omega|exact ⟨i + 1,by omega,by omega,by rw [hfs]; (first|(and_intros <;> rfl)|simp)⟩|skip
 ·have hge : ¬ (i : Int) < P.length:=by omega
  obtain rfl : i = P.length:=by omega
  (repeat' (first|apply zS|apply zB|((first|apply zR|apply zC|apply zT|apply zE|apply zK);simp only [go_sem,hge])|apply And.intro|intro _))
  all_goals first|omega|rfl|skip
theorem cFindS : Cn Tryz.prog 72 kFind := by
 refine Cn.pur Tryz.func72 (by kernel_rfl) rfl fun d x hx=>?_
 obtain ⟨P,s⟩ := x
 simp only at hx ⊢
 refine Holds.go (c := cxFunsS) Tryz.func72 rfl Tryz.results72 Tryz.ntmps72 (by omega) (by simp) rfl ?_
 intro X0 w0
 (repeat' (first|apply zS|apply zB|((first|apply zR|apply zC|apply zT|apply zE|apply zK);simp only [go_sem])|apply And.intro|intro _))
 all_goals first|omega|skip
 refine zL (fun i : Nat=>⟨[(0,.sl 4 (P.map encLine)),(1,.v (.string s)),(5,.v (.int .i64 i))],[]⟩) (fun k=>k ≤ P.length ∧ ∀ i (hi : i < P.length),i < k → isFn s P[i] = false) (fun i=>P.length - i) 0 (by simp) ?_ ?_
 ·(simp only [go_sem] <;> (first|(and_intros <;> rfl)|simp))
 rintro k ⟨hk,hf⟩
 by_cases hlt : k < P.length
 ·have hli : (k : Int) < P.length:=by omega
  have h2 := rowAt_map encLine P k hlt
  rw [encLine] at h2
  have hit : P[k].kind = 0 → P[k].name = s → findFn P s = k := fun a b=>firstIdx_hit hlt hf (by simp [isFn,a,b])
  have hno : ¬ (P[k].kind = 0 ∧ P[k].name = s) → ∀ i (hi : i < P.length),i < k + 1 → isFn s P[i] = false := fun q i hi hik=>by
   rcases Nat.lt_or_ge i k with h|h
   ·exact hf i hi h
   ·have : i = k:=by omega
    subst this
    cases hb : isFn s P[i] with
    |false=>rfl
    |true=>exact absurd (by simpa [isFn] using hb) q
  generalize P[k].kind = kk at h2 hit hno
  generalize P[k].name = nn at h2 hit hno
  by_cases h0 : kk = 0
  ·by_cases hs : nn = s
   ·rw [hit h0 hs]
    (repeat' (first|apply zS|apply zB|((first|apply zR|apply zC|apply zT|apply zE|apply zK);simp only [go_sem,hli,h2,h0,hs])|apply And.intro|intro _))
    all_goals first|omega|rfl|skip
   ·have hnx := hno fun q=>hs q.2
    (repeat' (first|apply zS|apply zB|((first|apply zR|apply zC|apply zT|apply zE|apply zK);simp only [go_sem,hli,h2,h0,hs])|apply And.intro|intro _))
    all_goals first|omega|exact ⟨k + 1,⟨by omega,hnx⟩,by omega,by (first|(and_intros <;> rfl)|simp)⟩|skip
  ·have hnx := hno fun q=>h0 q.1
   (repeat' (first|apply zS|apply zB|((first|apply zR|apply zC|apply zT|apply zE|apply zK);simp only [go_sem,hli,h2,h0])|apply And.intro|intro _))
   all_goals first|omega|exact ⟨k + 1,⟨by omega,hnx⟩,by omega,by (first|(and_intros <;> rfl)|simp)⟩|skip
 ·have hge : ¬ (k : Int) < P.length:=by omega
  rw [show findFn P s = -1 from firstIdx_none fun i hi=>hf i hi (by omega)]
  (repeat' (first|apply zS|apply zB|((first|apply zR|apply zC|apply zT|apply zE|apply zK);simp only [go_sem,hge])|apply And.intro|intro _))
  all_goals first|omega|rfl|skip
end
end Go.Proofs.YtjjbcoigaejoaaaGreat

namespace Go.Proofs.YtjjbcoigaejoaaaGreat
open Go.Vc
attribute [local irreducible] Go.Vc.WP
attribute [local go_sem] cx0_t cx0_c
attribute [local go_sem] decS_enc decTok_enc decLine_enc oneLine_f line_eta oneTok_f aPk St.fzS addL behind St.runO St.stepO
section
attribute [local irreducible] shLine
noncomputable def cxLclS := mkX [(73,kBlk),(79,kIdxS)] (COk.cons cBlkS (COk.cons cIdxSS (COk.nil _)))
theorem cxLclS_t : cxLclS.tys = tys := rfl
theorem cxLclS_c : cxLclS.C = [(73,kBlk),(79,kIdxS)] := rfl
attribute [local go_sem] cxLclS_t cxLclS_c kBlk kIdxS
set_option maxHeartbeats 8000000
theorem cLclS : Cn Tryz.prog 75 kLcl := by
 refine Cn.pur Tryz.func75 (by kernel_rfl) rfl fun d x hx=>?_
 obtain ⟨P,k⟩ := x
 obtain ⟨hx,hsh⟩ := hx
 simp only at hx hsh ⊢
 refine Holds.go (c := cxLclS) Tryz.func75 rfl Tryz.results75 Tryz.ntmps75 (by omega) (by simp) rfl ?_
 intro X0 w0
 have lk0 : lk 0 tys = none := rfl
 by_cases hneg : endOf P k < 0
 ·rw [localsOf_neg hneg]
  (repeat' (first|apply zS|apply zB|((first|refine WP.regionO (id := 2) ?_); simp only [go_sem,hneg])|((first|apply zR|apply zC|apply zT|apply zE|apply zK);simp only [go_sem,hneg])|apply And.intro|intro _))
  all_goals first|omega|rfl|exact ⟨_,_,rfl⟩|exact ⟨_,_,_,rfl⟩|skip
 have hin := endOf_opens (P := P) (k := k) (by omega)
 obtain ⟨n,rfl⟩ := Int.eq_ofNat_of_zero_le hin.1
 have hn : n < P.length:=by omega
 obtain ⟨e,he,hE,hne⟩ := endOf_nn (P := P) (k := n) (by omega)
 have hel := hE.lt
 have h1 := rowAt_map encLine P n hn
 have he0 : ¬ (e : Int) < 0:=by omega
 by_cases h3 : P[n].kind = 0
 rotate_left
 ·rw [localsOf_kd hn h3]
  (repeat' (first|apply zS|apply zB|((first|apply zR|apply zC|apply zT|apply zE|apply zK);simp only [go_sem,h1,encLine,h3,he,he0])|apply And.intro|intro _))
  all_goals first|omega|rfl|exact ⟨_,_,rfl⟩|exact ⟨_,_,_,rfl⟩|skip
 rw [localsOf_go hn h3 he]
 have hsn : P[n].args.length ≤ 1048576:=by have := hsh _ (List.getElem_mem hn); unfold shLine at this; exact this.1
 generalize hA0 : P[n].args = A0 at hsn
 rw [encLine,hA0] at h1
 have hnn : (0 : Nat) + A0.length = A0.length:=by omega
 (repeat' (first|apply zS|apply zB|((first|apply zR|apply zC|apply zT|apply zE|apply zK);simp only [go_sem,h1,h3,he,he0])|apply And.intro|intro _))
 all_goals first|omega|exact rowS_ln ‹_›|skip
 generalize hG : locGo P (e - n) n A0 = G
 refine zL (fun s : Nat × List ByteArray=>⟨[(0,.sl 4 (P.map encLine)),(5,.v (.int .i64 e)),(6,.own 22),(7,.v (.int .i64 s.1))],[(22,.sl 9 1 (s.2.map encS))]⟩)
  (fun s=>n ≤ s.1 ∧ s.1 ≤ e ∧ s.2.length ≤ A0.length + s.1 ∧ locGo P (e - s.1) s.1 s.2 = G) (fun s=>e - s.1) (n,A0) ⟨by simp only; omega,by simp only; omega,by simp only; omega,hG⟩ ?_ ?_
 ·(simp only [go_sem] <;> (first|(and_intros <;> rfl)|simp))
 rintro ⟨i,A⟩ ⟨hi0,hi1,hA,hF⟩
 simp only at hi0 hi1 hA hF ⊢
 by_cases hlt : i < e
 ·have hli : (i : Int) < (e : Int):=by omega
  have hiP : i < P.length:=by omega
  have h2 := rowAt_map encLine P i hiP
  rw [encLine] at h2
  have hkd := kd_lt hiP
  have hnm := nameAt_lt hiP
  rw [locGo_succ P hlt,hkd,hnm] at hF
  generalize P[i].kind = kk at h2 hF
  generalize P[i].name = nn at h2 hF
  by_cases h1k : kk = 1
  ·by_cases hm : nn ∈ A
   ·have hmi : ¬ firstIdx (strIs nn) A < 0:=by have := hm; rw [← firstIdx_mem] at this; omega
    rw [if_neg (fun q=>q.2 hm)] at hF
    (repeat' (first|apply zS|apply zB|((first|apply zR|apply zC|apply zT|apply zE|apply zK);simp only [go_sem,hli,h2,h1k,hmi])|apply And.intro|intro _))
    all_goals first|omega|exact ⟨(i + 1,A),⟨by simp only; omega,by simp only; omega,by simp only; omega,hF⟩,by simp only; omega,by (first|(and_intros <;> rfl)|simp)⟩|skip
   ·have hmi : firstIdx (strIs nn) A < 0:=by have := hm; rw [← firstIdx_mem] at this; omega
    rw [if_pos ⟨h1k,hm⟩] at hF
    (repeat' (first|apply zS|apply zB|((first|apply zR|apply zC|apply zT|apply zE|apply zK);simp only [go_sem,hli,h2,h1k,hmi])|apply And.intro|intro _))
    all_goals first|omega|exact ⟨(i + 1,A ++ [nn]),⟨by simp only; omega,by simp only; omega,by simp only [List.length_append,List.length_cons,List.length_nil]; omega,hF⟩,by simp only; omega,by simp only [List.map_append,List.map_cons,List.map_nil,encS]; (first|(and_intros <;> rfl)|simp)⟩|skip
  ·rw [if_neg (fun q=>h1k q.1)] at hF
   (repeat' (first|apply zS|apply zB|((first|apply zR|apply zC|apply zT|apply zE|apply zK);simp only [go_sem,hli,h2,h1k])|apply And.intro|intro _))
   all_goals first|omega|exact ⟨(i + 1,A),⟨by simp only; omega,by simp only; omega,by simp only; omega,hF⟩,by simp only; omega,by (first|(and_intros <;> rfl)|simp)⟩|skip
 ·have hge : ¬ (i : Int) < (e : Int):=by omega
  rw [show e - i = 0 by omega,locGo] at hF
  subst hF
  (repeat' (first|apply zS|apply zB|((first|apply zR|apply zC|apply zT|apply zE|apply zK);simp only [go_sem,hge])|apply And.intro|intro _))
  all_goals first|omega|rfl|skip
end
end Go.Proofs.YtjjbcoigaejoaaaGreat

namespace Go.Vc
section
variable {c : Cx} {N : Nat} {X0 : Nat → Prop} {M : Nat → BV → Prop} {w0 : World} {st : St} {K : Exit → St → Prop}
theorem WP.regionCut6 {id : Nat} {o1 o2 o3 o4 o5 o6 : Oper} (h : St.runR c.tys c.C N #[o1,o2,o3,o4,o5,o6] [o1,o2,o3,o4] st fun st'=>st'.cutK c.tys N o5 fun st2=>St.runR c.tys c.C N #[o1,o2,o3,o4,o5,o6] [o6] st2 (K .normal)) :
  WP c N X0 M w0 (.region id #[o1,o2,o3,o4,o5,o6] false) st K := fun hA β a w hs =>
 wp_region_lit (l := [o1,o2,o3,o4,o5,o6]) (runR_then hA c.hty c.hC (l2 := [o5,o6]) (fun a w ⟨st',β',h1,h2⟩=>by
  obtain ⟨q1,q2⟩ := cutK_sound (ops := #[o1,o2,o3,o4,o5,o6]) (Q := fun e a w=>Ok N X0 M w0 (K e) a w) c.hty h2 h1
  unfold wpList
  rw [if_pos q1]
  exact .inl (Oper.wp_mono (fun a' w' ⟨st3,β3,h4,h5⟩=>runR_sound hA c.hty c.hC (fun a w hk=>hk) [o6] h5 h4) q2)) [o1,o2,o3,o4] hs h)
end
end Go.Vc

namespace Go.Proofs.YtjjbcoigaejoaaaGreat
open Go.Vc
attribute [local irreducible] Go.Vc.WP
attribute [local go_sem] cx0_t cx0_c
attribute [local go_sem] decTok_enc oneTok_f decS_enc oneLine_f line_eta St.fzS addL behind St.runO St.stepO
section
noncomputable def cxLoS := mkX [(15,k60),(80,kNameOk),(94,kHasEx3),(95,kExOk)] (COk.cons c58 (COk.cons cNameOkS (COk.cons cHasExS (COk.cons cExOkS (COk.nil _)))))
theorem cxLoS_t : cxLoS.tys = tys := rfl
theorem cxLoS_c : cxLoS.C = [(15,k60),(80,kNameOk),(94,kHasEx3),(95,kExOk)] := rfl
attribute [local go_sem] cxLoS_t cxLoS_c k60 kNameOk kHasEx3 kExOk
set_option maxHeartbeats 4000000
theorem cLnOkS : Cn Tryz.prog 71 kLnOk := by
 refine Cn.pur Tryz.func71 (by kernel_rfl) rfl fun d x hx=>?_
 obtain ⟨k,n,A,E⟩ := x
 obtain ⟨hn,hA,hE⟩ := hx
 have hAl := hA.1
 have hEl := hE.1
 simp only at hn hAl hEl hA hE ⊢
 refine Holds.go (c := cxLoS) Tryz.func71 rfl Tryz.results71 Tryz.ntmps71 (by omega) (by simp) rfl ?_
 intro X0 w0
 by_cases hk : 0 ≤ k ∧ k ≤ 7
 ·have hk0 := hk.1
  have hk7 := hk.2
  have hh3 := hasEx3_eq hk0 hk7
  by_cases hl : ((A.length : Nat) : Int) ≤ 4
  ·(repeat' (first|apply zS|apply zB|((first|apply zR|apply zC|apply zT|apply zE|apply zK| refine zD 11 (by decide +kernel) (by kernel_rfl) ?_); simp only [go_sem,hk0,hk7,hl])|apply And.intro|intro _))
   all_goals first|omega|skip
   refine zL (fun a : Nat=>⟨[(1,.ptr 1 0 0 0),(3,.v (.int .i64 a))],[(1,.box 52 [.v (.int .i64 k),.v (.string n),.sl 1 (A.map encS),.sl 3 (E.map encTok)])]⟩)
    (fun a=>a ≤ A.length ∧ (∀ i (hi : i < A.length),i < a → nameOk A[i] = true) ∧ (A.take a).Nodup ∧ (0 < a → k = 0)) (fun a=>A.length - a) 0 (by simp) ?_ ?_
   ·(simp only [go_sem] <;> (first|(and_intros <;> rfl)|simp))
   rintro a ⟨ha,hf,hd,hz⟩
   by_cases hlt : a < A.length
   ·have hli : (a : Int) < A.length:=by omega
    have h1 := rowAt_map encS A a hlt
    have h2 := hA.2 _ (List.getElem_mem hlt)
    cases hnm : nameOk A[a] with
    |false =>
     have hno : decide (LineP ⟨k,n,A,E⟩) = false := decide_eq_false fun q=>by rw [q.names _ (List.getElem_mem hlt)] at hnm; cases hnm
     rw [hno]
     (repeat' (first|apply zS|apply zB|((first|apply zR|apply zC|apply zT|apply zE|apply zK| refine zD 11 (by decide +kernel) (by kernel_rfl) ?_); simp only [go_sem,hli,h1,encS,hnm])|apply And.intro|intro _))
     all_goals first|omega|skip
    |true =>
     by_cases h0 : k = 0
     ·have h0T : (k = 0) = True := eq_true h0
      (repeat' (first|apply zS|apply zB|((first|apply zR|apply zC|apply zT|apply zE|apply zK| refine zD 11 (by decide +kernel) (by kernel_rfl) ?_); simp only [go_sem,hli,h1,encS,hnm,h0T])|apply And.intro|intro _))
      all_goals first|omega|skip
      refine zL (fun j : Nat=>⟨[(1,.ptr 1 0 0 0),(3,.v (.int .i64 a)),(4,.v (.int .i64 j))],[(1,.box 52 [.v (.int .i64 k),.v (.string n),.sl 1 (A.map encS),.sl 3 (E.map encTok)])]⟩)
       (fun j=>j ≤ a ∧ ∀ i (hi : i < A.length),i < j → A[i] ≠ A[a]) (fun j=>a - j) 0 (by simp) ?_ ?_
      ·(simp only [go_sem] <;> (first|(and_intros <;> rfl)|simp))
      rintro j ⟨hj,hg⟩
      by_cases hja : j < a
      ·have hji : (j : Int) < a:=by omega
       have hjl : j < A.length:=by omega
       have hjli : (j : Int) < A.length:=by omega
       have h3 := rowAt_map encS A j hjl
       by_cases he : A[j] = A[a]
       ·have hno : decide (LineP ⟨k,n,A,E⟩) = false := decide_eq_false fun q=>nodup_no hlt (by rw [← he,List.mem_take_iff_getElem]; exact ⟨j,by omega,rfl⟩) q.apart
        rw [hno]
        (repeat' (first|apply zS|apply zB|((first|apply zR|apply zC|apply zT|apply zE|apply zK| refine zD 11 (by decide +kernel) (by kernel_rfl) ?_); simp only [go_sem,hji,hjli,hli,h1,h3,encS,he])|apply And.intro|intro _))
        all_goals first|omega|skip
       ·have hnx : ∀ i (hi : i < A.length),i < j + 1 → A[i] ≠ A[a] := fun i hi hij=>by
         rcases Nat.lt_or_ge i j with q|q
         ·exact hg i hi q
         ·have : i = j:=by omega
          subst this; exact he
        (repeat' (first|apply zS|apply zB|((first|apply zR|apply zC|apply zT|apply zE|apply zK| refine zD 11 (by decide +kernel) (by kernel_rfl) ?_); simp only [go_sem,hji,hjli,hli,h1,h3,encS,he])|apply And.intro|intro _))
        all_goals first|omega|exact ⟨j + 1,⟨by omega,hnx⟩,by omega,by (first|(and_intros <;> rfl)|simp)⟩|skip
      ·have hjge : ¬ (j : Int) < a:=by omega
       have hnm2 : A[a] ∉ A.take a := fun hm=>by
        obtain ⟨i,hi,hia⟩ := List.mem_take_iff_getElem.1 hm
        exact hg i (by omega) (by omega) hia
       have hnx : ∀ i (hi : i < A.length),i < a + 1 → nameOk A[i] = true := fun i hi hik=>by
        rcases Nat.lt_or_ge i a with q|q
        ·exact hf i hi q
        ·have : i = a:=by omega
         subst this; exact hnm
       (repeat' (first|apply zS|apply zB|((first|apply zR|apply zC|apply zT|apply zE|apply zK| refine zD 11 (by decide +kernel) (by kernel_rfl) ?_); simp only [go_sem,hjge])|apply And.intro|intro _))
       all_goals first|omega|exact ⟨a + 1,⟨by omega,hnx,nodup_take hlt hd hnm2,fun _=>h0⟩,by omega,by (first|(and_intros <;> rfl)|simp)⟩|exact ⟨a + 1,⟨by omega,hnx,nodup_take hlt hd hnm2⟩,by omega,by (first|(and_intros <;> rfl)|simp)⟩|skip
     ·have hno : decide (LineP ⟨k,n,A,E⟩) = false := decide_eq_false fun q=>by have := q.noArgs h0; simp only at this; rw [this] at hlt; exact absurd hlt (by simp)
      rw [hno]
      (repeat' (first|apply zS|apply zB|((first|apply zR|apply zC|apply zT|apply zE|apply zK| refine zD 11 (by decide +kernel) (by kernel_rfl) ?_); simp only [go_sem,hli,h1,encS,hnm,h0])|apply And.intro|intro _))
      all_goals first|omega|skip
   ·have hge : ¬ (a : Int) < A.length:=by omega
    have hap : ArgsP A := ⟨fun s hs=>by
     obtain ⟨i,hi,rfl⟩ := List.mem_iff_getElem.1 hs
     exact hf i hi (by omega),by rwa [List.take_of_length_le (by omega)] at hd,by omega⟩
    have hk00 : k ≠ 0 → A = [] := fun h=>by
     apply List.eq_nil_of_length_eq_zero
     rcases Nat.eq_zero_or_pos A.length with q|q
     ·exact q
     ·exact absurd (hz (by omega)) h
    clear hf hd hz
    cases hex : hasEx k with
    |true =>
     rw [hex] at hh3
     by_cases h01 : k = 0 ∨ k = 1
     ·cases hnm : nameOk n with
      |false =>
       have hno : decide (LineP ⟨k,n,A,E⟩) = false := decide_eq_false fun q=>by rw [q.name h01] at hnm; cases hnm
       rw [hno]
       (repeat' (first|apply zS|apply zB|((first|apply zR|apply zC|apply zT|apply zE|apply zK| refine zD 11 (by decide +kernel) (by kernel_rfl) ?_); simp only [go_sem,hge,h01,hnm])|apply And.intro|intro _))
       all_goals first|omega|skip
      |true =>
       have he : decide (LineP ⟨k,n,A,E⟩) = exprOk E := decide_bool ⟨fun q=>q.expr hex,fun q=>⟨hk,hap.2.2,hap.1,hap.2.1,hk00,fun _=>hnm,fun h=>absurd h01 h,fun _=>q,fun h=>by rw [hex] at h; cases h⟩⟩
       rw [he]
       (repeat' (first|apply zS|apply zB|((first|apply zR|apply zC|apply zT|apply zE|apply zK| refine zD 11 (by decide +kernel) (by kernel_rfl) ?_); simp only [go_sem,hge,h01,hnm,hh3])|apply And.intro|intro _))
       all_goals first|omega|exact hE|exact hE.2 _ ‹_›|skip
     ·have h0 : ¬ k = 0 := fun e=>h01 (.inl e)
      have h1 : ¬ k = 1 := fun e=>h01 (.inr e)
      by_cases hne : n = ⟨#[]⟩
      ·have he : decide (LineP ⟨k,n,A,E⟩) = exprOk E := decide_bool ⟨fun q=>q.expr hex,fun q=>⟨hk,hap.2.2,hap.1,hap.2.1,hk00,fun h=>absurd h h01,fun _=>hne,fun _=>q,fun h=>by rw [hex] at h; cases h⟩⟩
       have hneT : (n = ⟨#[]⟩) = True := eq_true hne
       rw [he]
       (repeat' (first|apply zS|apply zB|((first|apply zR|apply zC|apply zT|apply zE|apply zK| refine zD 11 (by decide +kernel) (by kernel_rfl) ?_); simp only [go_sem,hge,h0,h1,hneT,hh3])|apply And.intro|intro _))
       all_goals first|omega|exact hE|exact hE.2 _ ‹_›|skip
      ·have hno : decide (LineP ⟨k,n,A,E⟩) = false := decide_eq_false fun q=>hne (q.noName h01)
       rw [hno]
       (repeat' (first|apply zS|apply zB|((first|apply zR|apply zC|apply zT|apply zE|apply zK| refine zD 11 (by decide +kernel) (by kernel_rfl) ?_); simp only [go_sem,hge,h0,h1,hne])|apply And.intro|intro _))
       all_goals first|omega|skip
    |false =>
     rw [hex] at hh3
     have hl0 := len0_eq E
     by_cases h01 : k = 0 ∨ k = 1
     ·cases hnm : nameOk n with
      |false =>
       have hno : decide (LineP ⟨k,n,A,E⟩) = false := decide_eq_false fun q=>by rw [q.name h01] at hnm; cases hnm
       rw [hno]
       (repeat' (first|apply zS|apply zB|((first|apply zR|apply zC|apply zT|apply zE|apply zK| refine zD 11 (by decide +kernel) (by kernel_rfl) ?_); simp only [go_sem,hge,h01,hnm])|apply And.intro|intro _))
       all_goals first|omega|skip
      |true =>
       have he : decide (LineP ⟨k,n,A,E⟩) = decide (E = []) := decide_eq_decide.2 ⟨fun q=>q.noExpr hex,fun q=>⟨hk,hap.2.2,hap.1,hap.2.1,hk00,fun _=>hnm,fun h=>absurd h01 h,fun h=>(by rw [hex] at h; cases h),fun _=>q⟩⟩
       rw [he]
       (repeat' (first|apply zS|apply zB|((first|apply zR|apply zC|apply zT|apply zE|apply zK| refine zD 11 (by decide +kernel) (by kernel_rfl) ?_); simp only [go_sem,hge,h01,hnm,hh3,hl0])|apply And.intro|intro _))
       all_goals first|omega|exact hE|exact hE.2 _ ‹_›|skip
     ·have h0 : ¬ k = 0 := fun e=>h01 (.inl e)
      have h1 : ¬ k = 1 := fun e=>h01 (.inr e)
      by_cases hne : n = ⟨#[]⟩
      ·have he : decide (LineP ⟨k,n,A,E⟩) = decide (E = []) := decide_eq_decide.2 ⟨fun q=>q.noExpr hex,fun q=>⟨hk,hap.2.2,hap.1,hap.2.1,hk00,fun h=>absurd h h01,fun _=>hne,fun h=>(by rw [hex] at h; cases h),fun _=>q⟩⟩
       have hneT : (n = ⟨#[]⟩) = True := eq_true hne
       rw [he]
       (repeat' (first|apply zS|apply zB|((first|apply zR|apply zC|apply zT|apply zE|apply zK| refine zD 11 (by decide +kernel) (by kernel_rfl) ?_); simp only [go_sem,hge,h0,h1,hneT,hh3,hl0])|apply And.intro|intro _))
       all_goals first|omega|exact hE|exact hE.2 _ ‹_›|skip
      ·have hno : decide (LineP ⟨k,n,A,E⟩) = false := decide_eq_false fun q=>hne (q.noName h01)
       rw [hno]
       (repeat' (first|apply zS|apply zB|((first|apply zR|apply zC|apply zT|apply zE|apply zK| refine zD 11 (by decide +kernel) (by kernel_rfl) ?_); simp only [go_sem,hge,h0,h1,hne])|apply And.intro|intro _))
       all_goals first|omega|skip
  ·have hno : decide (LineP ⟨k,n,A,E⟩) = false := decide_eq_false fun q=>by have := q.few; simp only at this; omega
   have hl' : (4 : Int) < A.length:=by omega
   rw [hno]
   (repeat' (first|apply zS|apply zB|((first|apply zR|apply zC|apply zT|apply zE|apply zK| refine zD 11 (by decide +kernel) (by kernel_rfl) ?_); simp only [go_sem,hk0,hk7,hl'])|apply And.intro|intro _))
   all_goals first|omega|skip
 ·have hno : decide (LineP ⟨k,n,A,E⟩) = false := decide_eq_false fun q=>hk q.kind
  have hb : (decide (0 ≤ k) && decide (k ≤ 7)) = false:=by simp; omega
  rw [hno]
  (repeat' (first|apply zS|apply zB|((first|apply zR|apply zC|apply zT|apply zE|apply zK| refine zD 11 (by decide +kernel) (by kernel_rfl) ?_); simp only [go_sem,hb])|apply And.intro|intro _))
  all_goals first|omega|skip
end
end Go.Proofs.YtjjbcoigaejoaaaGreat

namespace Go.Proofs.YtjjbcoigaejoaaaGreat
open Go.Vc
attribute [local irreducible] Go.Vc.WP
attribute [local go_sem] cx0_t cx0_c
attribute [local go_sem] decTok_enc oneTok_f decS_enc oneLine_f line_eta St.fzS addL behind St.runO St.stepO
theorem allV_S' (L : List ByteArray) : allV (L.map encS) := fun row hr c hc=>by
 obtain ⟨x,_,rfl⟩ := List.mem_map.1 hr
 simp only [encS,List.mem_cons,List.not_mem_nil,or_false] at hc
 exact ⟨_,hc⟩
theorem decS_cons (s : ByteArray) (R : List (List SV)) : decS ([.v (.string s)] :: R) = s :: decS R := rfl
theorem decS_app (R T : List (List SV)) : decS (R ++ T) = decS R ++ decS T := List.map_append
theorem decS_nil : decS [] = [] := rfl
section
attribute [local irreducible] smLine smToks
attribute [local go_sem] decS_cons decS_app decS_nil
attribute [local go_sem] kLnOk
set_option maxHeartbeats 4000000
end
section
attribute [local irreducible] smLine smToks
attribute [local go_sem] kLnOk
set_option maxHeartbeats 4000000
end
end Go.Proofs.YtjjbcoigaejoaaaGreat

namespace Go.Proofs.YtjjbcoigaejoaaaGreat
open Go.Vc
attribute [local irreducible] Go.Vc.WP
attribute [local go_sem] cx0_t cx0_c
attribute [local go_sem] decS_enc decTok_enc decLine_enc oneLine_f line_eta oneTok_f aPk decI_enc St.fzS addL behind St.runO St.stepO St.cutK
theorem LineP.shL {x : Line} (h : LineP x) : shLine x := by
 refine ⟨by have := h.few; omega,?_⟩
 cases hk : hasEx x.kind with
 |true=>have := (exprOk_iff.1 (h.expr hk)).1; omega
 |false=>rw [h.noExpr hk]; simp
theorem LineP.shE {x : Line} (h : LineP x) : x.expr.length ≤ 1048576 := (LineP.shL h).2
theorem LineP.shA {x : Line} (h : LineP x) : x.args.length ≤ 1048576 := (LineP.shL h).1
def kLclZ : Ctr := pur aPk (fun x=>[.sl 4 (x.1.map encLine),.v (.int .i64 x.2)]) (fun x=>x.1.length ≤ 1048576 ∧ ∀ y ∈ x.1,shLine y) (fun _ x=>.sl 1 ((localsOf x.1 x.2).map encS)) (fun _ _=>[])
theorem cLclZI : Cn Tryz.prog 102 kLclZ := Cn.frozen (fun _=>allV_S' _) cLclI
noncomputable def kFnOk : Ctr := pur (fun args=>(decLine (aR args 0),aI args 1,aI args 2)) (fun x=>[.sl 4 (x.1.map encLine),.v (.int .i64 x.2.1),.v (.int .i64 x.2.2)])
 (fun x=>x.1.length ≤ 60 ∧ (∀ y ∈ x.1,LineP y) ∧ ∃ k e : Nat,x.2.1 = k ∧ x.2.2 = e ∧ kd x.1 k = 0 ∧ IsEnd x.1 k e)
 (fun _ x=>.v (.bool (bodyIB x.1 x.2.1.toNat x.2.2.toNat))) (fun _ _=>[])
section
attribute [local irreducible] shLine
noncomputable def cxFnOkI := mkX [(102,kLclZ),(83,kBlk),(103,kKnown)] (COk.cons cLclZI (COk.cons cBlkI (COk.cons cKnownI (COk.nil _))))
theorem cxFnOkI_t : cxFnOkI.tys = tys := rfl
theorem cxFnOkI_c : cxFnOkI.C = [(102,kLclZ),(83,kBlk),(103,kKnown)] := rfl
attribute [local go_sem] cxFnOkI_t cxFnOkI_c kLclZ kBlk kKnown
set_option maxHeartbeats 16000000
theorem cFnOkI : Cn Tryz.prog 85 kFnOk := by
 refine Cn.pur Tryz.func85 (by kernel_rfl) rfl fun d x hx=>?_
 obtain ⟨P,k0,e0⟩ := x
 obtain ⟨hx,hL,k,e,hk0,he0,hk,hE⟩ := hx
 simp only at hx hL hk0 he0 hk hE
 subst hk0 he0
 have hsh : ∀ y ∈ P,shLine y := fun y hy=>LineP.shL (hL y hy)
 have hel := hE.lt
 have hke := hE.lt' hk
 simp only [Int.toNat_natCast]
 refine Holds.go (c := cxFnOkI) Tryz.func85 rfl Tryz.results85 Tryz.ntmps85 (by omega) (by simp) rfl ?_
 intro X0 w0
 have lk0 : lk 0 tys = none := rfl
 generalize hA : localsOf P k = A
 by_cases h8 : A.length ≤ 8
 rotate_left
 ·have h8' : (8 : Int) < A.length:=by omega
  rw [bodyIB_no (P := P) (k := k) (e := e) fun q=>h8 (by have := q.1; rw [hA] at this; exact this)]
  (repeat' (first|apply zS|apply zB|((first|apply zR|apply zC|apply zT|apply zE|apply zK);simp only [go_sem,hA,h8'])|apply And.intro|intro _))
  all_goals first|omega|rfl|assumption|exact hsh _ ‹_›|skip
 have h8' : ¬ (8 : Int) < A.length:=by omega
 (repeat' (first|apply zS|apply zB|((first|apply zR|apply zC|apply zT|apply zE|apply zK);simp only [go_sem,hA,h8'])|apply And.intro|intro _))
 all_goals first|omega|assumption|exact hsh _ ‹_›|skip
 refine zL (fun s : Nat × List Int=>⟨[(0,.sl 4 (P.map encLine)),(2,.v (.int .i64 e)),(7,.sl 1 (A.map encS)),(8,.own 16),(9,.v (.int .i64 s.1))],[(16,.sl 3 1 (s.2.map encI))]⟩)
  (fun s=>k < s.1 ∧ s.1 ≤ e + 1 ∧ s.2.length ≤ s.1 ∧ (∀ t : Nat,k < t → t < s.1 → condI P k t) ∧ (s.1 ≤ e → Stk P (sumTo P (k + 1)) s.1 (popL s.1 s.2))) (fun s=>e + 1 - s.1) (k + 1,[])
  ⟨by simp only; omega,by simp only; omega,by simp,fun t a b=>by simp only at b; omega,fun _=>.nil rfl⟩ ?_ ?_
 ·(simp only [go_sem] <;> (first|(and_intros <;> rfl)|simp))
 rintro ⟨i,L⟩ ⟨q1,q2,q3,q4,q5⟩
 simp only at q1 q2 q3 q4 q5 ⊢
 by_cases hlt : i ≤ e
 rotate_left
 ·have hge : ¬ (i : Int) ≤ (e : Int):=by omega
  rw [bodyIB_yes (P := P) (k := k) (e := e) ⟨by rw [hA]; exact h8,fun t a b=>q4 t a (by omega)⟩]
  (repeat' (first|apply zS|apply zB|((first|apply zR|apply zC|apply zT|apply zE|apply zK);simp only [go_sem,hge])|apply And.intro|intro _))
  all_goals first|omega|rfl|exact hsh _ ‹_›|skip
 have hli : (i : Int) ≤ (e : Int):=by omega
 have hiP : i < P.length:=by omega
 (repeat' (first|apply zS|apply zB|((first|apply zR|apply zC|apply zT|apply zE|apply zK);simp only [go_sem,hli])|apply And.intro|intro _))
 all_goals first|omega|skip
 refine zL (fun M : List Int=>⟨[(0,.sl 4 (P.map encLine)),(2,.v (.int .i64 e)),(7,.sl 1 (A.map encS)),(8,.own 16),(9,.v (.int .i64 i))],[(16,.sl 3 1 (M.map encI))]⟩)
  (fun M=>popL i M = popL i L ∧ M.length ≤ L.length) (fun M=>M.length) L ⟨rfl,Nat.le_refl _⟩ ?_ ?_
 ·(simp only [go_sem] <;> (first|(and_intros <;> rfl)|simp))
 rintro M ⟨m1,m2⟩
 rcases List.eq_nil_or_concat M with hM|⟨M0,x,hM⟩
 ·have hpos : ¬ (0 : Int) < (M.length : Int):=by rw [hM]; simp
  have hrow : Go.Vc.rowAt (M.map encI) ((M.length : Int) - 1).toNat = []:=by rw [hM]; rfl
  have hS : popL i M = M:=by rw [hM]; rfl
  have hSt := q5 hlt
  rw [← m1,hS] at hSt
  have hlen := hSt.len
  have hs4 := sumTo_bound P i
  have h2 := rowAt_map encLine P i hiP
  rw [encLine] at h2
  have hkd := kd_lt hiP
  have hex := exprAt_lt hiP
  have hyl := hL _ (List.getElem_mem hiP)
  have hel2 : P[i].expr.length ≤ 1048576 := LineP.shE hyl
  generalize P[i].kind = kk at h2 hkd
  generalize P[i].expr = EE at h2 hex hel2
  generalize hz : endOf P i = z
  by_cases k0 : kk = 0
  ·rw [condI_no (P := P) (k := k) q1 hlt (fun q=>q.kn (by rw [hkd]; exact k0))]
   (repeat' (first|apply zS|apply zB|((first|refine WP.regionO (id := 8) ?_); simp only [go_sem,hpos,hrow,h2,k0])|((first|apply zR|apply zC|apply zT|apply zE|apply zK);simp only [go_sem,hpos,hrow,h2,k0])|apply And.intro|intro _))
   all_goals first|omega|rfl|exact hsh _ ‹_›|skip
  by_cases k35 : kk = 3 ∨ kk = 5
  ·have hln : (M.map encI ++ [[SV.v (.int .i64 z)]]).length = M.length + 1:=by simp
   have hcd : condI P k i ↔ ((M.length + 1 ≤ 4) ∧ knownE P A EE = true) := by
    unfold condI
    rw [hkd,if_pos k35,hex,hA]
    constructor
    ·rintro ⟨_,b,c⟩; exact ⟨by omega,c⟩
    ·rintro ⟨b,c⟩; exact ⟨k0,by omega,c⟩
   by_cases h4 : M.length + 1 ≤ 4
   ·have h4a : ¬ (4 : Int) < ((M.length + 1 : Nat) : Int):=by omega
    have h4b : ¬ (4 : Int) < (M.length : Int) + 1:=by omega
    cases hkn : knownE P A EE with
    |true =>
     have hnx : ∀ t : Nat,k < t → t < i + 1 → condI P k t := fun t a b=>by
      rcases Nat.lt_or_ge t i with c|c
      ·exact q4 t a c
      ·rw [show t = i by omega]; exact hcd.2 ⟨h4,hkn⟩
     have hst : i + 1 ≤ e → Stk P (sumTo P (k + 1)) (i + 1) (popL ((i + 1 : Nat) : Int) (M ++ [z])) := fun q=>by
      have := hSt.next hk hE q1 (by omega) (by rw [hkd]; exact k0)
      rw [hkd,if_pos k35,hz] at this; exact this
     rcases k35 with k35|k35
     ·(repeat' (first|apply zS|apply zB|((first|refine WP.regionO (id := 8) ?_); simp only [go_sem,hpos,hrow,h2,k35,hz,hln,h4a,h4b,hkn])|((first|apply zR|apply zC|apply zT|apply zE|apply zK);simp only [go_sem,hpos,hrow,h2,k35,hz,hln,h4a,h4b,hkn])|apply And.intro|intro _))
      all_goals first|omega|rfl|exact hsh _ ‹_›|exact ⟨(i + 1,M ++ [z]),⟨by simp only; omega,by simp only; omega,by simp only [List.length_append,List.length_cons,List.length_nil]; omega,hnx,hst⟩,by simp only; omega,by simp only [List.map_append,List.map_cons,List.map_nil,encI]; (first|(and_intros <;> rfl)|simp)⟩|skip
     ·(repeat' (first|apply zS|apply zB|((first|refine WP.regionO (id := 8) ?_); simp only [go_sem,hpos,hrow,h2,k35,hz,hln,h4a,h4b,hkn])|((first|apply zR|apply zC|apply zT|apply zE|apply zK);simp only [go_sem,hpos,hrow,h2,k35,hz,hln,h4a,h4b,hkn])|apply And.intro|intro _))
      all_goals first|omega|rfl|exact hsh _ ‹_›|exact ⟨(i + 1,M ++ [z]),⟨by simp only; omega,by simp only; omega,by simp only [List.length_append,List.length_cons,List.length_nil]; omega,hnx,hst⟩,by simp only; omega,by simp only [List.map_append,List.map_cons,List.map_nil,encI]; (first|(and_intros <;> rfl)|simp)⟩|skip
    |false =>
     rw [condI_no (P := P) (k := k) q1 hlt (fun q=>by have := (hcd.1 q).2; rw [hkn] at this; cases this)]
     rcases k35 with k35|k35
     ·(repeat' (first|apply zS|apply zB|((first|refine WP.regionO (id := 8) ?_); simp only [go_sem,hpos,hrow,h2,k35,hz,hln,h4a,h4b,hkn])|((first|apply zR|apply zC|apply zT|apply zE|apply zK);simp only [go_sem,hpos,hrow,h2,k35,hz,hln,h4a,h4b,hkn])|apply And.intro|intro _))
      all_goals first|omega|rfl|exact hsh _ ‹_›|skip
     ·(repeat' (first|apply zS|apply zB|((first|refine WP.regionO (id := 8) ?_); simp only [go_sem,hpos,hrow,h2,k35,hz,hln,h4a,h4b,hkn])|((first|apply zR|apply zC|apply zT|apply zE|apply zK);simp only [go_sem,hpos,hrow,h2,k35,hz,hln,h4a,h4b,hkn])|apply And.intro|intro _))
      all_goals first|omega|rfl|exact hsh _ ‹_›|skip
   ·have h4a : (4 : Int) < ((M.length + 1 : Nat) : Int):=by omega
    have h4b : (4 : Int) < (M.length : Int) + 1:=by omega
    rw [condI_no (P := P) (k := k) q1 hlt (fun q=>h4 (hcd.1 q).1)]
    rcases k35 with k35|k35
    ·(repeat' (first|apply zS|apply zB|((first|refine WP.regionO (id := 8) ?_); simp only [go_sem,hpos,hrow,h2,k35,hz,hln,h4a,h4b])|((first|apply zR|apply zC|apply zT|apply zE|apply zK);simp only [go_sem,hpos,hrow,h2,k35,hz,hln,h4a,h4b])|apply And.intro|intro _))
     all_goals first|omega|rfl|exact hsh _ ‹_›|skip
    ·(repeat' (first|apply zS|apply zB|((first|refine WP.regionO (id := 8) ?_); simp only [go_sem,hpos,hrow,h2,k35,hz,hln,h4a,h4b])|((first|apply zR|apply zC|apply zT|apply zE|apply zK);simp only [go_sem,hpos,hrow,h2,k35,hz,hln,h4a,h4b])|apply And.intro|intro _))
     all_goals first|omega|rfl|exact hsh _ ‹_›|skip
  ·have n3 : ¬ kk = 3 := fun e=>k35 (.inl e)
   have n5 : ¬ kk = 5 := fun e=>k35 (.inr e)
   have hcd : condI P k i ↔ (M.length ≤ 4 ∧ knownE P A EE = true) := by
    unfold condI
    rw [hkd,if_neg k35,hex,hA]
    constructor
    ·rintro ⟨_,b,c⟩; exact ⟨by omega,c⟩
    ·rintro ⟨b,c⟩; exact ⟨k0,by omega,c⟩
   by_cases h4 : M.length ≤ 4
   ·have h4a : ¬ (4 : Int) < (M.length : Int):=by omega
    cases hkn : knownE P A EE with
    |true =>
     have hnx : ∀ t : Nat,k < t → t < i + 1 → condI P k t := fun t a b=>by
      rcases Nat.lt_or_ge t i with c|c
      ·exact q4 t a c
      ·rw [show t = i by omega]; exact hcd.2 ⟨h4,hkn⟩
     have hst : i + 1 ≤ e → Stk P (sumTo P (k + 1)) (i + 1) (popL ((i + 1 : Nat) : Int) M) := fun q=>by
      have := hSt.next hk hE q1 (by omega) (by rw [hkd]; exact k0)
      rw [hkd,if_neg k35] at this; exact this
     (repeat' (first|apply zS|apply zB|((first|refine WP.regionO (id := 8) ?_); simp only [go_sem,hpos,hrow,h2,k0,n3,n5,h4a,hkn])|((first|apply zR|apply zC|apply zT|apply zE|apply zK);simp only [go_sem,hpos,hrow,h2,k0,n3,n5,h4a,hkn])|apply And.intro|intro _))
     all_goals first|omega|rfl|exact hsh _ ‹_›|exact ⟨(i + 1,M),⟨by simp only; omega,by simp only; omega,by simp only; omega,hnx,hst⟩,by simp only; omega,by (first|(and_intros <;> rfl)|simp)⟩|skip
    |false =>
     rw [condI_no (P := P) (k := k) q1 hlt (fun q=>by have := (hcd.1 q).2; rw [hkn] at this; cases this)]
     (repeat' (first|apply zS|apply zB|((first|refine WP.regionO (id := 8) ?_); simp only [go_sem,hpos,hrow,h2,k0,n3,n5,h4a,hkn])|((first|apply zR|apply zC|apply zT|apply zE|apply zK);simp only [go_sem,hpos,hrow,h2,k0,n3,n5,h4a,hkn])|apply And.intro|intro _))
     all_goals first|omega|rfl|exact hsh _ ‹_›|skip
   ·have h4a : (4 : Int) < (M.length : Int):=by omega
    rw [condI_no (P := P) (k := k) q1 hlt (fun q=>h4 (hcd.1 q).1)]
    (repeat' (first|apply zS|apply zB|((first|refine WP.regionO (id := 8) ?_); simp only [go_sem,hpos,hrow,h2,k0,n3,n5,h4a])|((first|apply zR|apply zC|apply zT|apply zE|apply zK);simp only [go_sem,hpos,hrow,h2,k0,n3,n5,h4a])|apply And.intro|intro _))
    all_goals first|omega|rfl|exact hsh _ ‹_›|skip
 ·rw [List.concat_eq_append] at hM
  have hml : M.length = M0.length + 1:=by rw [hM]; simp
  have hpos : (0 : Int) < (M.length : Int):=by omega
  have hrow : Go.Vc.rowAt (M.map encI) ((M.length : Int) - 1).toNat = [.v (.int .i64 x)] := by
   rw [show ((M.length : Int) - 1).toNat = M0.length by omega,hM]
   unfold Go.Vc.rowAt
   simp [encI]
  by_cases hxi : x < (i : Int)
  ·have htk : List.take ((M.length : Int) - 1).toNat (M.map encI) = M0.map encI := by
    rw [show ((M.length : Int) - 1).toNat = M0.length by omega,hM,List.map_append,List.take_left' (by rw [List.length_map])]
   have hp : popL i M0 = popL i L:=by rw [← m1,hM,popL_lt _ hxi]
   (repeat' (first|apply zS|apply zB|((first|refine WP.regionO (id := 8) ?_|refine WP.regionCut6 (id := 9) ?_); simp only [go_sem,hpos,hrow,hxi,htk])|((first|apply zR|apply zC|apply zT|apply zE|apply zK);simp only [go_sem,hpos,hrow,hxi,htk])|apply And.intro|intro _))
   all_goals first|omega|rfl|exact hsh _ ‹_›|exact ⟨M0,⟨hp,by omega⟩,by omega,by (first|(and_intros <;> rfl)|simp)⟩|skip
  have hS : popL i M = M:=by rw [hM,popL_ge _ hxi]
  have hSt := q5 hlt
  rw [← m1,hS] at hSt
  have hlen := hSt.len
  have hs4 := sumTo_bound P i
  have h2 := rowAt_map encLine P i hiP
  rw [encLine] at h2
  have hkd := kd_lt hiP
  have hex := exprAt_lt hiP
  have hyl := hL _ (List.getElem_mem hiP)
  have hel2 : P[i].expr.length ≤ 1048576 := LineP.shE hyl
  generalize P[i].kind = kk at h2 hkd
  generalize P[i].expr = EE at h2 hex hel2
  generalize hz : endOf P i = z
  by_cases k0 : kk = 0
  ·rw [condI_no (P := P) (k := k) q1 hlt (fun q=>q.kn (by rw [hkd]; exact k0))]
   (repeat' (first|apply zS|apply zB|((first|apply zR|apply zC|apply zT|apply zE|apply zK);simp only [go_sem,hpos,hrow,hxi,h2,k0])|apply And.intro|intro _))
   all_goals first|omega|rfl|exact hsh _ ‹_›|skip
  by_cases k35 : kk = 3 ∨ kk = 5
  ·have hln : (M.map encI ++ [[SV.v (.int .i64 z)]]).length = M.length + 1:=by simp
   have hcd : condI P k i ↔ ((M.length + 1 ≤ 4) ∧ knownE P A EE = true) := by
    unfold condI
    rw [hkd,if_pos k35,hex,hA]
    constructor
    ·rintro ⟨_,b,c⟩; exact ⟨by omega,c⟩
    ·rintro ⟨b,c⟩; exact ⟨k0,by omega,c⟩
   by_cases h4 : M.length + 1 ≤ 4
   ·have h4a : ¬ (4 : Int) < ((M.length + 1 : Nat) : Int):=by omega
    have h4b : ¬ (4 : Int) < (M.length : Int) + 1:=by omega
    cases hkn : knownE P A EE with
    |true =>
     have hnx : ∀ t : Nat,k < t → t < i + 1 → condI P k t := fun t a b=>by
      rcases Nat.lt_or_ge t i with c|c
      ·exact q4 t a c
      ·rw [show t = i by omega]; exact hcd.2 ⟨h4,hkn⟩
     have hst : i + 1 ≤ e → Stk P (sumTo P (k + 1)) (i + 1) (popL ((i + 1 : Nat) : Int) (M ++ [z])) := fun q=>by
      have := hSt.next hk hE q1 (by omega) (by rw [hkd]; exact k0)
      rw [hkd,if_pos k35,hz] at this; exact this
     rcases k35 with k35|k35
     ·(repeat' (first|apply zS|apply zB|((first|apply zR|apply zC|apply zT|apply zE|apply zK);simp only [go_sem,hpos,hrow,hxi,h2,k35,hz,hln,h4a,h4b,hkn])|apply And.intro|intro _))
      all_goals first|omega|rfl|exact hsh _ ‹_›|exact ⟨(i + 1,M ++ [z]),⟨by simp only; omega,by simp only; omega,by simp only [List.length_append,List.length_cons,List.length_nil]; omega,hnx,hst⟩,by simp only; omega,by simp only [List.map_append,List.map_cons,List.map_nil,encI]; (first|(and_intros <;> rfl)|simp)⟩|skip
     ·(repeat' (first|apply zS|apply zB|((first|apply zR|apply zC|apply zT|apply zE|apply zK);simp only [go_sem,hpos,hrow,hxi,h2,k35,hz,hln,h4a,h4b,hkn])|apply And.intro|intro _))
      all_goals first|omega|rfl|exact hsh _ ‹_›|exact ⟨(i + 1,M ++ [z]),⟨by simp only; omega,by simp only; omega,by simp only [List.length_append,List.length_cons,List.length_nil]; omega,hnx,hst⟩,by simp only; omega,by simp only [List.map_append,List.map_cons,List.map_nil,encI]; (first|(and_intros <;> rfl)|simp)⟩|skip
    |false =>
     rw [condI_no (P := P) (k := k) q1 hlt (fun q=>by have := (hcd.1 q).2; rw [hkn] at this; cases this)]
     rcases k35 with k35|k35
     ·(repeat' (first|apply zS|apply zB|((first|apply zR|apply zC|apply zT|apply zE|apply zK);simp only [go_sem,hpos,hrow,hxi,h2,k35,hz,hln,h4a,h4b,hkn])|apply And.intro|intro _))
      all_goals first|omega|rfl|exact hsh _ ‹_›|skip
     ·(repeat' (first|apply zS|apply zB|((first|apply zR|apply zC|apply zT|apply zE|apply zK);simp only [go_sem,hpos,hrow,hxi,h2,k35,hz,hln,h4a,h4b,hkn])|apply And.intro|intro _))
      all_goals first|omega|rfl|exact hsh _ ‹_›|skip
   ·have h4a : (4 : Int) < ((M.length + 1 : Nat) : Int):=by omega
    have h4b : (4 : Int) < (M.length : Int) + 1:=by omega
    rw [condI_no (P := P) (k := k) q1 hlt (fun q=>h4 (hcd.1 q).1)]
    rcases k35 with k35|k35
    ·(repeat' (first|apply zS|apply zB|((first|apply zR|apply zC|apply zT|apply zE|apply zK);simp only [go_sem,hpos,hrow,hxi,h2,k35,hz,hln,h4a,h4b])|apply And.intro|intro _))
     all_goals first|omega|rfl|exact hsh _ ‹_›|skip
    ·(repeat' (first|apply zS|apply zB|((first|apply zR|apply zC|apply zT|apply zE|apply zK);simp only [go_sem,hpos,hrow,hxi,h2,k35,hz,hln,h4a,h4b])|apply And.intro|intro _))
     all_goals first|omega|rfl|exact hsh _ ‹_›|skip
  ·have n3 : ¬ kk = 3 := fun e=>k35 (.inl e)
   have n5 : ¬ kk = 5 := fun e=>k35 (.inr e)
   have hcd : condI P k i ↔ (M.length ≤ 4 ∧ knownE P A EE = true) := by
    unfold condI
    rw [hkd,if_neg k35,hex,hA]
    constructor
    ·rintro ⟨_,b,c⟩; exact ⟨by omega,c⟩
    ·rintro ⟨b,c⟩; exact ⟨k0,by omega,c⟩
   by_cases h4 : M.length ≤ 4
   ·have h4a : ¬ (4 : Int) < (M.length : Int):=by omega
    cases hkn : knownE P A EE with
    |true =>
     have hnx : ∀ t : Nat,k < t → t < i + 1 → condI P k t := fun t a b=>by
      rcases Nat.lt_or_ge t i with c|c
      ·exact q4 t a c
      ·rw [show t = i by omega]; exact hcd.2 ⟨h4,hkn⟩
     have hst : i + 1 ≤ e → Stk P (sumTo P (k + 1)) (i + 1) (popL ((i + 1 : Nat) : Int) M) := fun q=>by
      have := hSt.next hk hE q1 (by omega) (by rw [hkd]; exact k0)
      rw [hkd,if_neg k35] at this; exact this
     (repeat' (first|apply zS|apply zB|((first|apply zR|apply zC|apply zT|apply zE|apply zK);simp only [go_sem,hpos,hrow,hxi,h2,k0,n3,n5,h4a,hkn])|apply And.intro|intro _))
     all_goals first|omega|rfl|exact hsh _ ‹_›|exact ⟨(i + 1,M),⟨by simp only; omega,by simp only; omega,by simp only; omega,hnx,hst⟩,by simp only; omega,by (first|(and_intros <;> rfl)|simp)⟩|skip
    |false =>
     rw [condI_no (P := P) (k := k) q1 hlt (fun q=>by have := (hcd.1 q).2; rw [hkn] at this; cases this)]
     (repeat' (first|apply zS|apply zB|((first|apply zR|apply zC|apply zT|apply zE|apply zK);simp only [go_sem,hpos,hrow,hxi,h2,k0,n3,n5,h4a,hkn])|apply And.intro|intro _))
     all_goals first|omega|rfl|exact hsh _ ‹_›|skip
   ·have h4a : (4 : Int) < (M.length : Int):=by omega
    rw [condI_no (P := P) (k := k) q1 hlt (fun q=>h4 (hcd.1 q).1)]
    (repeat' (first|apply zS|apply zB|((first|apply zR|apply zC|apply zT|apply zE|apply zK);simp only [go_sem,hpos,hrow,hxi,h2,k0,n3,n5,h4a])|apply And.intro|intro _))
    all_goals first|omega|rfl|exact hsh _ ‹_›|skip
end
end Go.Proofs.YtjjbcoigaejoaaaGreat

namespace Go.Proofs.YtjjbcoigaejoaaaGreat
open Go.Vc
attribute [local irreducible] Go.Vc.WP
attribute [local go_sem] cx0_t cx0_c
attribute [local go_sem] decS_enc decTok_enc decLine_enc oneLine_f line_eta oneTok_f aPk decI_enc St.fzS addL behind St.runO St.stepO
theorem cLclZS : Cn Tryz.prog 75 kLclZ := Cn.frozen (fun _=>allV_S' _) cLclS
def swJ (P : List Line) (k i : Nat) (dp kk d : Int) : Prop := d = dp + delta kk ∧ kk ≠ 0 ∧ (kk = 4 → ∃ j : Nat,k ≤ j ∧ j < i ∧ elseOf P j = (i : Int))
noncomputable def kBody : Ctr := pur (fun args=>(decLine (aR args 0),aI args 1,aI args 2)) (fun x=>[.sl 4 (x.1.map encLine),.v (.int .i64 x.2.1),.v (.int .i64 x.2.2)])
 (fun x=>x.1.length ≤ 60 ∧ (∀ y ∈ x.1,LineP y) ∧ ∃ k e : Nat,x.2.1 = k ∧ x.2.2 = e ∧ kd x.1 k = 0 ∧ IsEnd x.1 k e)
 (fun _ x=>.v (.bool (bodySB x.1 x.2.1.toNat x.2.2.toNat))) (fun _ _=>[])
section
attribute [local irreducible] shLine
noncomputable def cxBody := mkX [(75,kLclZ),(76,kElse),(72,kFind),(79,kIdxS)] (COk.cons cLclZS (COk.cons cElseS (COk.cons cFindS (COk.cons cIdxSS (COk.nil _)))))
theorem cxBody_t : cxBody.tys = tys := rfl
theorem cxBody_c : cxBody.C = [(75,kLclZ),(76,kElse),(72,kFind),(79,kIdxS)] := rfl
attribute [local go_sem] cxBody_t cxBody_c kLclZ kElse kFind kIdxS
set_option maxHeartbeats 32000000
theorem cBody : Cn Tryz.prog 74 kBody := by
 refine Cn.pur Tryz.func74 (by kernel_rfl) rfl fun d x hx=>?_
 obtain ⟨P,k0,e0⟩ := x
 obtain ⟨hx,hL,k,e,hk0,he0,hk,hE⟩ := hx
 simp only at hx hL hk0 he0 hk hE
 subst hk0 he0
 have hsh : ∀ y ∈ P,shLine y := fun y hy=>LineP.shL (hL y hy)
 have hel := hE.lt
 have hke := hE.lt' hk
 simp only [Int.toNat_natCast]
 refine Holds.go (c := cxBody) Tryz.func74 rfl Tryz.results74 Tryz.ntmps74 (by omega) (by simp) rfl ?_
 intro X0 w0
 have lk0 : lk 0 tys = none := rfl
 generalize hA : localsOf P k = A
 by_cases h8 : A.length ≤ 8
 rotate_left
 ·have h8' : (8 : Int) < A.length:=by omega
  rw [bodySB_no (P := P) (k := k) (e := e) fun q=>h8 (by have := q.1; rw [hA] at this; exact this)]
  (repeat' (first|apply zS|apply zB|((first|apply zR|apply zC|apply zT|apply zE|apply zK| refine zD 13 (by decide +kernel) (by kernel_rfl) ?_); simp only [go_sem,hA,h8'])|apply And.intro|intro _))
  all_goals first|omega|rfl|assumption|exact hsh _ ‹_›|skip
 have h8' : ¬ (8 : Int) < A.length:=by omega
 (repeat' (first|apply zS|apply zB|((first|apply zR|apply zC|apply zT|apply zE|apply zK| refine zD 13 (by decide +kernel) (by kernel_rfl) ?_); simp only [go_sem,hA,h8'])|apply And.intro|intro _))
 all_goals first|omega|assumption|exact hsh _ ‹_›|skip
 refine zL (fun s : Nat × Int=>⟨[(0,.sl 4 (P.map encLine)),(1,.v (.int .i64 k)),(2,.v (.int .i64 e)),(7,.sl 1 (A.map encS)),(8,.v (.int .i64 s.2)),(9,.v (.int .i64 s.1))],[]⟩)
  (fun s=>k < s.1 ∧ s.1 ≤ e ∧ s.2 = sumTo P s.1 - sumTo P (k + 1) ∧ (∀ t : Nat,k < t → t < s.1 → condS P k t)) (fun s=>e - s.1) (k + 1,0)
  ⟨by simp only; omega,by simp only; omega,by simp only; omega,fun t a b=>by simp only at b; omega⟩ ?_ ?_
 ·(simp only [go_sem] <;> (first|(and_intros <;> rfl)|simp))
 rintro ⟨i,dp⟩ ⟨q1,q2,q3,q4⟩
 simp only at q1 q2 q3 q4 ⊢
 by_cases hlt : i < e
 rotate_left
 ·have hge : ¬ (i : Int) < (e : Int):=by omega
  rw [bodySB_yes (P := P) (k := k) (e := e) ⟨by rw [hA]; exact h8,fun t a b=>q4 t a (by omega)⟩]
  (repeat' (first|apply zS|apply zB|((first|apply zR|apply zC|apply zT|apply zE|apply zK| refine zD 13 (by decide +kernel) (by kernel_rfl) ?_); simp only [go_sem,hge])|apply And.intro|intro _))
  all_goals first|omega|rfl|exact hsh _ ‹_›|skip
 have hli : (i : Int) < (e : Int):=by omega
 have hiP : i < P.length:=by omega
 have hs4 := sumTo_bound P i
 have hs5 := sumTo_bound P (k + 1)
 have hs6 : sumTo P (i + 1) = sumTo P i + delta (kd P i) := rfl
 have h2 := rowAt_map encLine P i hiP
 rw [encLine] at h2
 have hkd := kd_lt hiP
 have hex := exprAt_lt hiP
 have hel2 : P[i].expr.length ≤ 1048576 := LineP.shE (hL _ (List.getElem_mem hiP))
 generalize P[i].kind = kk at h2 hkd
 generalize P[i].expr = EE at h2 hex hel2
 rw [hkd] at hs6
 (repeat' ((fail_if_success refine WP.atBlk (b := 2) ?_); first|apply zS|apply zB|((first|apply zR|apply zC|apply zT|apply zE|apply zK| refine zD 13 (by decide +kernel) (by kernel_rfl) ?_); simp only [go_sem,hli,h2])|apply And.intro|intro _))
 all_goals first|omega|skip
 refine WP.mid (fun d : Int=>⟨[(0,.sl 4 (P.map encLine)),(1,.v (.int .i64 k)),(2,.v (.int .i64 e)),(7,.sl 1 (A.map encS)),(8,.v (.int .i64 d)),(9,.v (.int .i64 i))],[]⟩)
  (swJ P k i dp kk) ?_ ?_
 ·by_cases k0 : kk = 0
  ·rw [condS_no (P := P) (k := k) q1 hlt (fun q=>q.kn (by rw [hkd]; exact k0))]
   (repeat' (first|apply zS|apply zB|((first|apply zR|apply zC|apply zT|apply zE|apply zK| refine zD 13 (by decide +kernel) (by kernel_rfl) ?_); simp only [go_sem,k0])|apply And.intro|intro _))
   all_goals first|omega|rfl|skip
  by_cases k3 : kk = 3
  ·have hdl : delta kk = 1:=by rw [k3]; rfl
   have hk4 : ¬ kk = 4:=by omega
   have hJ : swJ P k i dp kk (dp + 1) := ⟨by rw [hdl],k0,fun c=>absurd c hk4⟩
   (repeat' (first|apply zS|apply zB|((first|apply zR|apply zC|apply zT|apply zE|apply zK| refine zD 13 (by decide +kernel) (by kernel_rfl) ?_); simp only [go_sem,k3])|apply And.intro|intro _))
   all_goals first|omega|rfl|exact ⟨dp + 1,hJ,by (first|(and_intros <;> rfl)|simp)⟩|exact ⟨dp + 1,by rw [← k3]; exact hJ,by (first|(and_intros <;> rfl)|simp)⟩|skip
  by_cases k5 : kk = 5
  ·have hdl : delta kk = 1:=by rw [k5]; rfl
   have hk4 : ¬ kk = 4:=by omega
   have hJ : swJ P k i dp kk (dp + 1) := ⟨by rw [hdl],k0,fun c=>absurd c hk4⟩
   (repeat' (first|apply zS|apply zB|((first|apply zR|apply zC|apply zT|apply zE|apply zK| refine zD 13 (by decide +kernel) (by kernel_rfl) ?_); simp only [go_sem,k5])|apply And.intro|intro _))
   all_goals first|omega|rfl|exact ⟨dp + 1,hJ,by (first|(and_intros <;> rfl)|simp)⟩|exact ⟨dp + 1,by rw [← k5]; exact hJ,by (first|(and_intros <;> rfl)|simp)⟩|skip
  by_cases k7 : kk = 7
  ·have hdl : delta kk = -1:=by rw [k7]; rfl
   have hk4 : ¬ kk = 4:=by omega
   have hJ : swJ P k i dp kk (dp - 1) := ⟨by rw [hdl]; omega,k0,fun c=>absurd c hk4⟩
   (repeat' (first|apply zS|apply zB|((first|apply zR|apply zC|apply zT|apply zE|apply zK| refine zD 13 (by decide +kernel) (by kernel_rfl) ?_); simp only [go_sem,k7])|apply And.intro|intro _))
   all_goals first|omega|rfl|exact ⟨dp - 1,hJ,by (first|(and_intros <;> rfl)|simp)⟩|exact ⟨dp - 1,by rw [← k7]; exact hJ,by (first|(and_intros <;> rfl)|simp)⟩|skip
  have hdl : delta kk = 0 := delta_else (opensK_f k0 k3 k5) k7
  by_cases hk4 : kk = 4
  rotate_left
  ·have hJ : swJ P k i dp kk dp := ⟨by rw [hdl]; omega,k0,fun c=>absurd c hk4⟩
   (repeat' (first|apply zS|apply zB|((first|apply zR|apply zC|apply zT|apply zE|apply zK| refine zD 13 (by decide +kernel) (by kernel_rfl) ?_); simp only [go_sem,k0,k3,k5,k7,hk4])|apply And.intro|intro _))
   all_goals first|omega|rfl|exact ⟨dp,hJ,by (first|(and_intros <;> rfl)|simp)⟩|skip
  (repeat' (first|apply zS|apply zB|((first|apply zR|apply zC|apply zT|apply zE|apply zK| refine zD 13 (by decide +kernel) (by kernel_rfl) ?_); simp only [go_sem,hk4])|apply And.intro|intro _))
  all_goals first|omega|skip
  refine zL (fun s : Nat × Bool=>⟨[(0,.sl 4 (P.map encLine)),(1,.v (.int .i64 k)),(2,.v (.int .i64 e)),(7,.sl 1 (A.map encS)),(8,.v (.int .i64 dp)),(9,.v (.int .i64 i)),(10,.v (.bool s.2)),(11,.v (.int .i64 s.1))],[]⟩)
   (fun s=>k ≤ s.1 ∧ s.1 ≤ i ∧ (s.2 = true ↔ ∃ j : Nat,k ≤ j ∧ j < s.1 ∧ elseOf P j = (i : Int))) (fun s=>i - s.1) (k,false) ⟨Nat.le_refl _,by simp only; omega,⟨(fun h=>by simp at h),fun ⟨j,a,b,_⟩=>by simp only at b; omega⟩⟩ ?_ ?_
  ·(simp only [go_sem] <;> (first|(and_intros <;> rfl)|simp))
  rintro ⟨j,fb⟩ ⟨g1,g2,g3⟩
  simp only at g1 g2 g3 ⊢
  by_cases hltf : j < i
  ·have hlif : (j : Int) < (i : Int):=by omega
   cases fb with
   |true =>
    obtain ⟨j0,a,b,c⟩ := g3.1 rfl
    have hnx : (true = true ↔ ∃ t : Nat,k ≤ t ∧ t < j + 1 ∧ elseOf P t = (i : Int)) := ⟨fun _=>⟨j0,a,by omega,c⟩,fun _=>rfl⟩
    (repeat' (first|apply zS|apply zB|((first|apply zR|apply zC|apply zT|apply zE|apply zK| refine zD 13 (by decide +kernel) (by kernel_rfl) ?_); simp only [go_sem,hlif])|apply And.intro|intro _))
    all_goals first|omega|exact ⟨(j + 1,true),⟨by simp only; omega,by simp only; omega,hnx⟩,by simp only; omega,by (first|(and_intros <;> rfl)|simp)⟩|skip
   |false =>
    have hz : ∀ t : Nat,k ≤ t → t < j → ¬ elseOf P t = (i : Int) := fun t a b c=>by have := g3.2 ⟨t,a,b,c⟩; cases this
    by_cases hc : elseOf P j = (i : Int)
    ·have hnx : (true = true ↔ ∃ t : Nat,k ≤ t ∧ t < j + 1 ∧ elseOf P t = (i : Int)) := ⟨fun _=>⟨j,g1,by omega,hc⟩,fun _=>rfl⟩
     (repeat' (first|apply zS|apply zB|((first|apply zR|apply zC|apply zT|apply zE|apply zK| refine zD 13 (by decide +kernel) (by kernel_rfl) ?_); simp only [go_sem,hlif,hc])|apply And.intro|intro _))
     all_goals first|omega|exact ⟨(j + 1,true),⟨by simp only; omega,by simp only; omega,hnx⟩,by simp only; omega,by (first|(and_intros <;> rfl)|simp)⟩|skip
    ·have hnx : (false = true ↔ ∃ t : Nat,k ≤ t ∧ t < j + 1 ∧ elseOf P t = (i : Int)) := ⟨(fun h=>by cases h),fun ⟨t,a,b,c⟩=>by
      rcases Nat.lt_or_ge t j with q|q
      ·exact absurd c (hz t a q)
      ·rw [show t = j by omega] at c; exact absurd c hc⟩
     (repeat' (first|apply zS|apply zB|((first|apply zR|apply zC|apply zT|apply zE|apply zK| refine zD 13 (by decide +kernel) (by kernel_rfl) ?_); simp only [go_sem,hlif,hc])|apply And.intro|intro _))
     all_goals first|omega|exact ⟨(j + 1,false),⟨by simp only; omega,by simp only; omega,hnx⟩,by simp only; omega,by simp [hc]⟩|skip
  have hgef : ¬ (j : Int) < (i : Int):=by omega
  have hji : i = j:=by omega
  subst hji
  cases fb with
  |false =>
   rw [condS_no (P := P) (k := k) q1 hlt (fun q=>by have := g3.2 (q.el (by rw [hkd]; exact hk4)); cases this)]
   (repeat' (first|apply zS|apply zB|((first|apply zR|apply zC|apply zT|apply zE|apply zK| refine zD 13 (by decide +kernel) (by kernel_rfl) ?_); simp only [go_sem,hgef])|apply And.intro|intro _))
   all_goals first|omega|rfl|skip
  |true =>
   have hfnd := g3.1 rfl
   have hJ : swJ P k i dp kk dp := ⟨by rw [hdl]; omega,k0,fun _=>hfnd⟩
   (repeat' (first|apply zS|apply zB|((first|apply zR|apply zC|apply zT|apply zE|apply zK| refine zD 13 (by decide +kernel) (by kernel_rfl) ?_); simp only [go_sem,hgef])|apply And.intro|intro _))
   all_goals first|omega|rfl|exact ⟨dp,hJ,by (first|(and_intros <;> rfl)|simp)⟩|exact ⟨dp,by rw [← hk4]; exact hJ,by (first|(and_intros <;> rfl)|simp)⟩|skip
 rintro d ⟨hd,k0,hel4⟩
 by_cases h4 : d ≤ 4
 rotate_left
 ·have h4a : (4 : Int) < d:=by omega
  rw [condS_no (P := P) (k := k) q1 hlt (fun q=>by have := q.dp; omega)]
  (repeat' (first|apply zS|apply zB|((first|apply zR|apply zC|apply zT|apply zE|apply zK| refine zD 13 (by decide +kernel) (by kernel_rfl) ?_); simp only [go_sem,h4a])|apply And.intro|intro _))
  all_goals first|omega|rfl|exact hsh _ ‹_›|skip
 have h4a : ¬ (4 : Int) < d:=by omega
 have hyes : knownE P A EE = true → condS P k i := fun q=>⟨by rw [hkd]; exact k0,fun c=>hel4 (hkd.symm.trans c),by omega,by rw [hA,hex]; exact q⟩
 have hnon : ∀ (j : Nat) (hj : j < EE.length),knownT P A EE[j] = false → bodySB P k e = false := fun j hj q=>condS_no (P := P) (k := k) q1 hlt (fun c=>by have := c.kw; rw [hA,hex,knownE_no hj q] at this; cases this)
 (repeat' (first|apply zS|apply zB|((first|apply zR|apply zC|apply zT|apply zE|apply zK| refine zD 13 (by decide +kernel) (by kernel_rfl) ?_); simp only [go_sem,h4a])|apply And.intro|intro _))
 all_goals first|omega|skip
 refine zL (fun j : Nat=>⟨[(0,.sl 4 (P.map encLine)),(1,.v (.int .i64 k)),(2,.v (.int .i64 e)),(7,.sl 1 (A.map encS)),(8,.v (.int .i64 (d))),(9,.v (.int .i64 i)),(12,.v (.int .i64 j))],[]⟩)
  (fun j=>j ≤ EE.length ∧ ∀ t (ht : t < EE.length),t < j → knownT P A EE[t] = true) (fun j=>EE.length - j) 0 ⟨by omega,fun t ht h=>by omega⟩ ?_ ?_
 ·(simp only [go_sem] <;> (first|(and_intros <;> rfl)|simp))
 rintro j ⟨hj,hb⟩
 by_cases hltj : j < EE.length
 rotate_left
 ·have hgej : ¬ (j : Int) < EE.length:=by omega
  have hcc := hyes (knownE_yes fun t ht=>hb t ht (by omega))
  have hnx : ∀ t : Nat,k < t → t < i + 1 → condS P k t := fun t a b=>by
   rcases Nat.lt_or_ge t i with c|c
   ·exact q4 t a c
   ·rw [show t = i by omega]; exact hcc
  (repeat' (first|apply zS|apply zB|((first|apply zR|apply zC|apply zT|apply zE|apply zK| refine zD 13 (by decide +kernel) (by kernel_rfl) ?_); simp only [go_sem,h2,hgej])|apply And.intro|intro _))
  all_goals first|omega|rfl|exact hsh _ ‹_›|exact ⟨(i + 1,d),⟨by simp only; omega,by simp only; omega,by simp only; omega,hnx⟩,by simp only; omega,by (first|(and_intros <;> rfl)|simp)⟩|skip
 have hlij : (j : Int) < EE.length:=by omega
 have h5 := rowAt_map encTok EE j hltj
 have hno := hnon j hltj
 have hnx := fun q=>knownE_nx (P := P) (A := A) hltj q hb
 generalize EE[j] = t at h5 hno hnx
 obtain ⟨tk,tn,ts⟩ := t
 rw [encTok] at h5
 simp only at h5
 by_cases t1 : tk = 1
 ·subst t1
  by_cases hm : ts ∈ A
  ·have hmi : ¬ firstIdx (strIs ts) A < 0:=by have := hm; rw [← firstIdx_mem] at this; omega
   have hkt : knownT P A ⟨1,tn,ts⟩ = true:=by simp [knownT,hm]
   have hq := hnx hkt
   (repeat' (first|apply zS|apply zB|((first|apply zR|apply zC|apply zT|apply zE|apply zK| refine zD 13 (by decide +kernel) (by kernel_rfl) ?_); simp only [go_sem,h2,hlij,h5,hmi])|apply And.intro|intro _))
   all_goals first|omega|rfl|exact hsh _ ‹_›|exact ⟨j + 1,⟨by omega,hq⟩,by omega,by (first|(and_intros <;> rfl)|simp)⟩|skip
  ·have hmi : firstIdx (strIs ts) A < 0:=by have := hm; rw [← firstIdx_mem] at this; omega
   rw [hno (by simp [knownT,hm])]
   (repeat' (first|apply zS|apply zB|((first|apply zR|apply zC|apply zT|apply zE|apply zK| refine zD 13 (by decide +kernel) (by kernel_rfl) ?_); simp only [go_sem,h2,hlij,h5,hmi])|apply And.intro|intro _))
   all_goals first|omega|rfl|exact hsh _ ‹_›|skip
 by_cases t7 : tk = 7
 rotate_left
 ·have hq := hnx (by simp [knownT,t1,t7])
  (repeat' (first|apply zS|apply zB|((first|apply zR|apply zC|apply zT|apply zE|apply zK| refine zD 13 (by decide +kernel) (by kernel_rfl) ?_); simp only [go_sem,h2,hlij,h5,t1,t7])|apply And.intro|intro _))
  all_goals first|omega|rfl|exact hsh _ ‹_›|exact ⟨j + 1,⟨by omega,hq⟩,by omega,by (first|(and_intros <;> rfl)|simp)⟩|skip
 subst t7
 rcases findFn_form P ts with hf|⟨f,hf,hff⟩
 ·rw [hno (by simp [knownT,hf])]
  have h3 := rowAt_map encLine P 0 (by omega)
  rw [encLine] at h3
  (repeat' (first|apply zS|apply zB|((first|apply zR|apply zC|apply zT|apply zE|apply zK| refine zD 13 (by decide +kernel) (by kernel_rfl) ?_); simp only [go_sem,h2,hlij,h5,hf,h3])|apply And.intro|intro _))
  all_goals first|omega|rfl|exact hsh _ ‹_›|skip
 ·have h3 := rowAt_map encLine P f hf
  rw [encLine] at h3
  have hal := argsAt_lt hf
  have hf0 : ¬ (f : Int) < 0:=by omega
  have hkt : knownT P A ⟨7,tn,ts⟩ = decide ((P[f].args.length : Int) = tn):=by simp [knownT,hff,hal]
  have hsl : P[f].args.length ≤ 1048576 := LineP.shA (hL _ (List.getElem_mem hf))
  generalize P[f].args = AA at h3 hkt hsl
  by_cases hc : (AA.length : Int) = tn
  ·have hq := hnx (by rw [hkt]; exact decide_eq_true hc)
   (repeat' (first|apply zS|apply zB|((first|apply zR|apply zC|apply zT|apply zE|apply zK| refine zD 13 (by decide +kernel) (by kernel_rfl) ?_); simp only [go_sem,h2,hlij,h5,hff,hf0,h3,hc])|apply And.intro|intro _))
   all_goals first|omega|rfl|exact hsh _ ‹_›|exact ⟨j + 1,⟨by omega,hq⟩,by omega,by (first|(and_intros <;> rfl)|simp)⟩|skip
  ·rw [hno (by rw [hkt]; exact decide_eq_false hc)]
   (repeat' (first|apply zS|apply zB|((first|apply zR|apply zC|apply zT|apply zE|apply zK| refine zD 13 (by decide +kernel) (by kernel_rfl) ?_); simp only [go_sem,h2,hlij,h5,hff,hf0,h3,hc])|apply And.intro|intro _))
   all_goals first|omega|rfl|exact hsh _ ‹_›|skip
end
end Go.Proofs.YtjjbcoigaejoaaaGreat

namespace Go.Proofs.YtjjbcoigaejoaaaGreat
open Go.Vc
attribute [local irreducible] Go.Vc.WP
attribute [local go_sem] cx0_t cx0_c
attribute [local go_sem] decS_enc decTok_enc decLine_enc oneLine_f line_eta oneTok_f aPk decI_enc St.fzS addL behind St.runO St.stepO
def intIs (v : Int) (x : Int) : Bool := decide (x = v)
def kIdxN : Ctr := pur (fun args=>(decI (aR args 0),aI args 1)) (fun x=>[.sl 1 (x.1.map encI),.v (.int .i64 x.2)]) (fun x=>x.1.length ≤ 4398046511104) (fun _ x=>.v (.int .i64 (firstIdx (intIs x.2) x.1))) (fun _ _=>[])
def kHasN : Ctr := pur (fun args=>(decI (aR args 0),aI args 1)) (fun x=>[.sl 1 (x.1.map encI),.v (.int .i64 x.2)]) (fun x=>x.1.length ≤ 4398046511104) (fun _ x=>.v (.bool (decide (x.2 ∈ x.1)))) (fun _ _=>[])
theorem firstIdx_memN {L : List Int} {s : Int} : (0 ≤ firstIdx (intIs s) L) = (s ∈ L) := propext ⟨fun h=>by
 obtain ⟨k,hk,_,h2⟩ := firstIdx_pos (p := intIs s) (L := L) (by omega)
 have : L[k] = s:=by simpa [intIs] using h2
 rw [← this]; exact List.getElem_mem hk,fun h=>by
 rcases Int.lt_or_le (firstIdx (intIs s) L) 0 with hn|hn
 ·have := firstIdx_neg hn s h
  simp [intIs] at this
 ·exact hn⟩
section
noncomputable def cxIdN := mkX [] (COk.nil _)
theorem cxIdN_t : cxIdN.tys = tys := rfl
theorem cxIdN_c : cxIdN.C = [] := rfl
attribute [local go_sem] cxIdN_t cxIdN_c
theorem cIdxN : Cn Tryz.prog 104 kIdxN := by
 refine Cn.pur Tryz.func104 (by kernel_rfl) rfl fun d x hx=>?_
 obtain ⟨L,s⟩ := x
 simp only at hx ⊢
 refine Holds.go (c := cxIdN) Tryz.func104 rfl Tryz.results104 Tryz.ntmps104 (by omega) (by simp) rfl ?_
 intro X0 w0
 (repeat' (first|apply zS|apply zB|((first|apply zR|apply zC|apply zT|apply zE|apply zK);simp only [go_sem])|apply And.intro|intro _))
 all_goals first|omega|skip
 refine zL (fun k : Nat=>⟨[(0,.sl 1 (L.map encI)),(1,.v (.int .i64 s)),(7,.v (.int .i64 L.length)),(8,.v (.int .i64 k))],[]⟩) (fun k=>k ≤ L.length ∧ ∀ i (hi : i < L.length),i < k → intIs s L[i] = false) (fun k=>L.length - k) 0 (by simp) ?_ ?_
 ·(simp only [go_sem] <;> (first|(and_intros <;> rfl)|simp))
 intro k ⟨hk,hf⟩
 by_cases hlt : k < L.length
 ·have hli : (k : Int) < L.length:=by omega
  have h1 := rowAt_map encI L k hlt
  by_cases he : s = L[k]
  ·rw [show firstIdx (intIs s) L = k from firstIdx_hit hlt hf (by simp [intIs,← he])]
   rw [encI,← he] at h1
   (repeat' (first|apply zS|apply zB|((first|apply zR|apply zC|apply zT|apply zE|apply zK);simp only [go_sem,hli,h1])|apply And.intro|intro _))
   all_goals first|omega|rfl|skip
  ·have hnx : ∀ i (hi : i < L.length),i < k + 1 → intIs s L[i] = false := fun i hi hik=>by
    rcases Nat.lt_or_ge i k with h|h
    ·exact hf i hi h
    ·have : i = k:=by omega
     subst this
     simp only [intIs,decide_eq_false_iff_not]; exact fun e=>he e.symm
   rw [encI] at h1
   (repeat' (first|apply zS|apply zB|((first|apply zR|apply zC|apply zT|apply zE|apply zK);simp only [go_sem,hli,h1,he])|apply And.intro|intro _))
   all_goals first|omega|exact ⟨k + 1,⟨by omega,hnx⟩,by omega,by (first|(and_intros <;> rfl)|simp)⟩|skip
 ·have hge : ¬ (k : Int) < L.length:=by omega
  rw [show firstIdx (intIs s) L = -1 from firstIdx_none fun i hi=>hf i hi (by omega)]
  (repeat' (first|apply zS|apply zB|((first|apply zR|apply zC|apply zT|apply zE|apply zK);simp only [go_sem,hge])|apply And.intro|intro _))
  all_goals first|omega|rfl|skip
end
section
noncomputable def cxHaN := mkX [(104,kIdxN)] (COk.cons cIdxN (COk.nil _))
theorem cxHaN_t : cxHaN.tys = tys := rfl
theorem cxHaN_c : cxHaN.C = [(104,kIdxN)] := rfl
attribute [local go_sem] cxHaN_t cxHaN_c kIdxN
theorem cHasN : Cn Tryz.prog 87 kHasN := by
 refine Cn.pur Tryz.func87 (by kernel_rfl) rfl fun d x hx=>?_
 obtain ⟨L,s⟩ := x
 simp only at hx ⊢
 have hm := firstIdx_memN (L := L) (s := s)
 refine Holds.go (c := cxHaN) Tryz.func87 rfl Tryz.results87 Tryz.ntmps87 (by omega) (by simp) rfl ?_
 intro X0 w0
 (repeat' (first|apply zS|apply zB|((first|apply zR|apply zC|apply zT|apply zE|apply zK);simp only [go_sem,hm])|apply And.intro|intro _))
 all_goals first|omega|skip
end
theorem smLine_shL {x : Line} (h : smLine x) : shLine x := ⟨h.2.1.1,h.2.2.1⟩
theorem allV_In (L : List Int) : allV (L.map encI) := fun row hr c hc=>by
 obtain ⟨x,_,rfl⟩ := List.mem_map.1 hr
 simp only [encI,List.mem_cons,List.not_mem_nil,or_false] at hc
 exact ⟨_,hc⟩
def kFunsZ : Ctr := pur (fun args=>decLine (aR args 0)) (fun P=>[.sl 4 (P.map encLine)]) (fun P=>P.length ≤ 1048576) (fun _ P=>.sl 1 ((funs P P.length).map encI)) (fun _ _=>[])
theorem cFunsZI : Cn Tryz.prog 81 kFunsZ := Cn.frozen (fun _=>allV_In _) cFunsI
noncomputable def kPrgOk : Ctr := pur (fun args=>decLine (aR args 0)) (fun P=>[.sl 4 (P.map encLine)]) (fun P=>P.length ≤ 1048576 ∧ ∀ y ∈ P,smLine y) (fun _ P=>.v (.bool (progOk P))) (fun _ _=>[])
def elses (P : List Line) (n : Nat) : List Int := (List.range n).map fun i : Nat=>elseOf P i
theorem elses_len (P : List Line) (n : Nat) : (elses P n).length = n:=by simp [elses]
theorem elses_succ (P : List Line) (n : Nat) : elses P (n + 1) = elses P n ++ [elseOf P n]:=by unfold elses; rw [List.range_succ,List.map_append]; rfl
theorem elses_mem {P : List Line} {n : Nat} {x : Int} : x ∈ elses P n ↔ ∃ j : Nat,j < n ∧ elseOf P j = x := by
 unfold elses
 rw [List.mem_map]
 exact ⟨fun ⟨j,a,b⟩=>⟨j,List.mem_range.1 a,b⟩,fun ⟨j,a,b⟩=>⟨j,List.mem_range.2 a,b⟩⟩
section
attribute [local irreducible] shLine smLine
noncomputable def LcxPgI : CL := [(81,kFunsZ),(19,k60),(82,kLnOk),(83,kBlk),(84,kFind),(85,kFnOk),(86,kElse),(87,kHasN)]
noncomputable def cxPgI := mkX LcxPgI (COk.cons cFunsZI (COk.cons c60 (COk.cons cLnOkI (COk.cons cBlkI (COk.cons cFindI (COk.cons cFnOkI (COk.cons cElseI (COk.cons cHasN (COk.nil _)))))))))
theorem cxPgI_t : cxPgI.tys = tys := rfl
theorem cxPgI_c : cxPgI.C = LcxPgI := rfl
attribute [local go_sem] cxPgI_t cxPgI_c LcxPgI kFunsZ k60 kLnOk kBlk kFind kFnOk kElse kHasN
set_option maxHeartbeats 32000000
theorem cPrgOkI : Cn Tryz.prog 59 kPrgOk := by
 refine Cn.pur Tryz.func59 (by kernel_rfl) rfl fun d x hx=>?_
 rename List Line=>P
 obtain ⟨hx,hsm⟩ := hx
 have hsh : ∀ y ∈ P,shLine y := fun y hy=>smLine_shL (hsm y hy)
 refine Holds.go (c := cxPgI) Tryz.func59 rfl Tryz.results59 Tryz.ntmps59 (by omega) (by simp) rfl ?_
 intro X0 w0
 have lk0 : lk 0 tys = none := rfl
 generalize hF : funs P P.length = F
 by_cases h60 : P.length ≤ 60
 rotate_left
 ·have h60' : (60 : Int) < P.length:=by omega
  rw [progOk_no fun q=>h60 q.few]
  (repeat' (first|apply zS|apply zB|((first|apply zR|apply zC|apply zT|apply zE|apply zK);simp only [go_sem,hF,h60'])|apply And.intro|intro _))
  all_goals first|omega|rfl|skip
 have h60' : ¬ (60 : Int) < P.length:=by omega
 by_cases hf1 : 1 ≤ F.length
 rotate_left
 ·have hf1' : ¬ (1 : Int) ≤ F.length:=by omega
  rw [progOk_no fun q=>hf1 (by have := q.funs.1; rw [hF] at this; exact this)]
  (repeat' (first|apply zS|apply zB|((first|apply zR|apply zC|apply zT|apply zE|apply zK);simp only [go_sem,hF,h60',hf1'])|apply And.intro|intro _))
  all_goals first|omega|rfl|skip
 have hf1' : (1 : Int) ≤ F.length:=by omega
 by_cases hf6 : F.length ≤ 6
 rotate_left
 ·have hf6' : ¬ (F.length : Int) ≤ 6:=by omega
  rw [progOk_no fun q=>hf6 (by have := q.funs.2; rw [hF] at this; exact this)]
  (repeat' (first|apply zS|apply zB|((first|apply zR|apply zC|apply zT|apply zE|apply zK);simp only [go_sem,hF,h60',hf1',hf6'])|apply And.intro|intro _))
  all_goals first|omega|rfl|skip
 have hf6' : (F.length : Int) ≤ 6:=by omega
 have hFl : F.length ≤ P.length:=by rw [← hF]; exact funs_len P P.length
 (repeat' (first|apply zS|apply zB|((first|apply zR|apply zC|apply zT|apply zE|apply zK);simp only [go_sem,hF,h60',hf1',hf6'])|apply And.intro|intro _))
 all_goals first|omega|skip
 refine zL (fun i : Nat=>⟨[(0,.sl 4 (P.map encLine)),(3,.sl 1 (F.map encI)),(25,.sl 4 (P.map encLine)),(26,.v (.int .i64 P.length)),(27,.v (.int .i64 i))],[]⟩)
  (fun i=>i ≤ P.length ∧ ∀ (j : Nat) (hj : j < P.length),j < i → LineP P[j]) (fun i=>P.length - i) 0 ⟨by omega,fun j hj h=>by omega⟩ ?_ ?_
 ·(simp only [go_sem] <;> (first|(and_intros <;> rfl)|simp))
 rintro i ⟨hi,hb⟩
 by_cases hlt : i < P.length
 ·have hli : (i : Int) < P.length:=by omega
  have h2 := rowAt_map encLine P i hlt
  have hsi := hsm _ (List.getElem_mem hlt)
  by_cases hp : LineP P[i]
  ·have hnx : ∀ (j : Nat) (hj : j < P.length),j < i + 1 → LineP P[j] := fun j hj hji=>by
    rcases Nat.lt_or_ge j i with c|c
    ·exact hb j hj c
    ·have : j = i:=by omega
     subst this; exact hp
   generalize P[i] = y at h2 hsi hp
   obtain ⟨yk,yn,yA,yE⟩ := y
   rw [encLine] at h2
   simp only at h2
   (repeat' (first|apply zS|apply zB|((first|apply zR|apply zC|apply zT|apply zE|apply zK);simp only [go_sem,hli,h2,hp])|apply And.intro|intro _))
   all_goals first|omega|exact hsi|exact ⟨i + 1,⟨by omega,hnx⟩,by omega,by (first|(and_intros <;> rfl)|simp)⟩|skip
  ·rw [progOk_no fun q=>hp (q.lines _ (List.getElem_mem hlt))]
   generalize P[i] = y at h2 hsi hp
   obtain ⟨yk,yn,yA,yE⟩ := y
   rw [encLine] at h2
   simp only at h2
   (repeat' (first|apply zS|apply zB|((first|apply zR|apply zC|apply zT|apply zE|apply zK);simp only [go_sem,hli,h2,hp])|apply And.intro|intro _))
   all_goals first|omega|exact hsi|rfl|skip
 have hge : ¬ (i : Int) < P.length:=by omega
 have hL : ∀ y ∈ P,LineP y := fun y hy=>by obtain ⟨j,hj,rfl⟩ := List.mem_iff_getElem.1 hy; exact hb j hj (by omega)
 have hP0 : 0 < P.length:=by omega
 have r0 := rowAt_map encLine P 0 hP0
 rw [encLine] at r0
 have kd0 := kd_lt hP0
 have nm0 := nameAt_lt hP0
 have ar0 := argsAt_lt hP0
 have hA0 := (hsh _ (List.getElem_mem hP0))
 have hA0 : P[0].args.length ≤ 1048576:=by unfold shLine at hA0; exact hA0.1
 have hmb : bts [109,97,105,110] = ⟨#[109,97,105,110]⟩ := rfl
 generalize P[0].kind = kk at r0 kd0
 generalize P[0].name = nn at r0 nm0
 generalize P[0].args = AA at r0 ar0 hA0
 generalize P[0].expr = EE at r0
 by_cases m1 : kk = 0
 rotate_left
 ·rw [progOk_no fun q=>m1 (by rw [← kd0]; exact q.main.1)]
  (repeat' (first|apply zS|apply zB|((first|apply zR|apply zC|apply zT|apply zE|apply zK);simp only [go_sem,hge,r0,m1])|apply And.intro|intro _))
  all_goals first|omega|rfl|skip
 by_cases m2 : nn = ⟨#[109,97,105,110]⟩
 rotate_left
 ·rw [progOk_no fun q=>m2 (by rw [← nm0]; exact q.main.2.1)]
  (repeat' (first|apply zS|apply zB|((first|apply zR|apply zC|apply zT|apply zE|apply zK);simp only [go_sem,hge,r0,m1,m2])|apply And.intro|intro _))
  all_goals first|omega|rfl|skip
 by_cases m3 : AA = []
 rotate_left
 ·have m3' : (0 : Int) < AA.length:=by have := List.length_pos_iff.2 m3; omega
  rw [progOk_no fun q=>m3 (by rw [← ar0]; exact q.main.2.2)]
  (repeat' (first|apply zS|apply zB|((first|apply zR|apply zC|apply zT|apply zE|apply zK);simp only [go_sem,hge,r0,m1,m2,m3'])|apply And.intro|intro _))
  all_goals first|omega|rfl|skip
 have m3' : ¬ (0 : Int) < AA.length:=by rw [m3]; simp
 have hmain : kd P 0 = 0 ∧ nameAt P 0 = bts [109,97,105,110] ∧ argsAt P 0 = [] := ⟨kd0.trans m1,nm0.trans m2,ar0.trans m3⟩
 (repeat' (first|apply zS|apply zB|((first|apply zR|apply zC|apply zT|apply zE|apply zK);simp only [go_sem,hge,r0,m1,m2,m3'])|apply And.intro|intro _))
 all_goals first|omega|skip
 clear r0 kd0 nm0 ar0 hA0
 refine zL (fun s : Nat × Nat=>⟨[(0,.sl 4 (P.map encLine)),(6,.v (.int .i64 s.2)),(55,.sl 1 (F.map encI)),(56,.v (.int .i64 F.length)),(57,.v (.int .i64 s.1))],[]⟩)
  (fun s=>s.1 ≤ F.length ∧ FnI P s.1 s.2) (fun s=>F.length - s.1) (0,0) ⟨by simp only; omega,FnI.zero P⟩ ?_ ?_
 ·(simp only [go_sem] <;> (first|(and_intros <;> rfl)|simp))
 rintro ⟨ix,nx⟩ ⟨g1,g2⟩
 simp only at g1 g2 ⊢
 by_cases hlx : ix < F.length
 ·have hli : (ix : Int) < F.length:=by omega
  have hixF : ix < (funs P P.length).length:=by rw [hF]; exact hlx
  obtain ⟨k,k1,k2,k3⟩ := funs_get hixF
  have h3 := rowAt_map encI F ix hlx
  have hFk : F[ix] = (k : Int):=by rw [← k3]; simp only [hF]
  rw [encI,hFk] at h3
  have h2 := rowAt_map encLine P k k1
  rw [encLine] at h2
  have hnm := nameAt_lt k1
  generalize hnn2 : P[k].name = n2 at h2 hnm
  by_cases c1 : k = nx
  rotate_left
  ·have c1' : ¬ (k : Int) = (nx : Int):=by omega
   rw [progOk_no fun q=>c1 (g2.head hixF k3 q.tiles)]
   (repeat' (first|apply zS|apply zB|((first|refine WP.regionO (id := 17) ?_); simp only [go_sem,hli,h3,h2,c1'])|((first|apply zR|apply zC|apply zT|apply zE|apply zK);simp only [go_sem,hli,h3,h2,c1'])|apply And.intro|intro _))
   all_goals first|omega|rfl|exact hL|exact hsh|exact hsm|skip
  subst c1
  by_cases c2 : findFn P n2 = (k : Int)
  rotate_left
  ·rw [progOk_no fun q=>c2 (by rw [← hnm]; exact q.first k k1 k2)]
   have b1 : ((k : Int) != (k : Int)) = false:=by simp
   have b2 : (findFn P n2 != (k : Int)) = true:=by simp [c2]
   (repeat' (first|apply zS|apply zB|((first|refine WP.regionO (id := 17) ?_); simp only [go_sem,hli,h3,h2,c2,b1,b2])|((first|apply zR|apply zC|apply zT|apply zE|apply zK);simp only [go_sem,hli,h3,h2,c2,b1,b2])|apply And.intro|intro _))
   all_goals first|omega|rfl|exact hL|exact hsh|exact hsm|skip
  by_cases c3 : endOf P k < 0
  ·rw [progOk_no fun q=>by obtain ⟨e,a,_⟩ := g2.ends hixF k3 q.tiles; omega]
   have b1 : ((k : Int) != (k : Int)) = false:=by simp
   have b2 : ((k : Int) == (k : Int)) = true:=by simp
   (repeat' (first|apply zS|apply zB|((first|refine WP.regionO (id := 17) ?_); simp only [go_sem,hli,h3,h2,c2,c3,b1,b2])|((first|apply zR|apply zC|apply zT|apply zE|apply zK);simp only [go_sem,hli,h3,h2,c2,c3,b1,b2])|apply And.intro|intro _))
   all_goals first|omega|rfl|exact hL|exact hsh|exact hsm|skip
  obtain ⟨e,e1,e2,e3⟩ := endOf_nn (P := P) (k := k) (by omega)
  have c3' : ¬ (e : Int) < 0:=by omega
  have hel := e2.lt
  have tn1 : (k : Int).toNat = k := Int.toNat_natCast k
  have tn2 : (e : Int).toNat = e := Int.toNat_natCast e
  have hpre : ∃ k' : Nat,(k : Int) = k' ∧ ∃ e' : Nat,(e : Int) = e' ∧ kd P k' = 0 ∧ IsEnd P k' e' := ⟨k,rfl,e,rfl,k2,e2⟩
  cases c4 : bodyIB P k e with
  |false =>
   rw [progOk_no fun q=>by
    obtain ⟨e',a,b,c⟩ := g2.ends hixF k3 q.tiles
    rw [e2.inj b] at c4
    rw [bodyIB_yes c] at c4; cases c4]
   (repeat' (first|apply zS|apply zB|((first|apply zR|apply zC|apply zT|apply zE|apply zK);simp only [go_sem,hli,h3,h2,c2,e1,c3',tn1,tn2,c4])|apply And.intro|intro _))
   all_goals first|omega|rfl|exact hL|exact hL _ ‹_›|exact hsh|exact hsm|exact hpre|skip
  |true =>
   have hnx := g2.next hixF k3 e2 (bodyIB_of c4) (by rw [hnm]; exact c2)
   (repeat' (first|apply zS|apply zB|((first|apply zR|apply zC|apply zT|apply zE|apply zK);simp only [go_sem,hli,h3,h2,c2,e1,c3',tn1,tn2,c4])|apply And.intro|intro _))
   all_goals first|omega|rfl|exact hL|exact hL _ ‹_›|exact hsh|exact hsm|exact hpre|exact ⟨(ix + 1,e + 1),⟨by simp only; omega,hnx⟩,by simp only; omega,by (first|(and_intros <;> rfl)|simp)⟩|skip
 have hgx : ¬ (ix : Int) < F.length:=by omega
 have hfin := FnI.fin (P := P) (next := nx) (by rw [hF,show F.length = ix by omega]; exact g2)
 (repeat' (first|apply zS|apply zB|((first|apply zR|apply zC|apply zT|apply zE|apply zK);simp only [go_sem,hgx])|apply And.intro|intro _))
 all_goals first|omega|skip
 refine zL (fun i : Nat=>⟨[(0,.sl 4 (P.map encLine)),(6,.v (.int .i64 nx)),(10,.own 92),(94,.v (.int .i64 P.length)),(95,.v (.int .i64 i))],[(92,.sl 3 1 ((elses P i).map encI))]⟩)
  (fun i=>i ≤ P.length) (fun i=>P.length - i) 0 (by omega) ?_ ?_
 ·(simp only [go_sem] <;> (first|(and_intros <;> rfl)|simp))
 intro i hi2
 have hel2 := elses_len P i
 by_cases hlt2 : i < P.length
 ·have hli : (i : Int) < P.length:=by omega
  have hes := elses_succ P i
  (repeat' (first|apply zS|apply zB|((first|apply zR|apply zC|apply zT|apply zE|apply zK);simp only [go_sem,hli])|apply And.intro|intro _))
  all_goals first|omega|exact ⟨i + 1,by omega,by omega,by rw [hes,List.map_append]; (first|(and_intros <;> rfl)|simp)⟩|skip
 have hge2 : ¬ (i : Int) < P.length:=by omega
 obtain rfl : i = P.length:=by omega
 generalize hEL : elses P P.length = EL at hel2
 (repeat' (first|apply zS|apply zB|((first|apply zR|apply zC|apply zT|apply zE|apply zK);simp only [go_sem,hge2])|apply And.intro|intro _))
 all_goals first|omega|skip
 refine zL (fun i : Nat=>⟨[(0,.sl 4 (P.map encLine)),(6,.v (.int .i64 nx)),(10,.own 92),(105,.sl 4 (P.map encLine)),(106,.v (.int .i64 P.length)),(107,.v (.int .i64 i))],[(92,.sl 3 1 (EL.map encI))]⟩)
  (fun i=>i ≤ P.length ∧ ∀ j : Nat,j < i → kd P j = 4 → ∃ t : Nat,t < P.length ∧ elseOf P t = (j : Int)) (fun i=>P.length - i) 0 ⟨by omega,fun j h=>by omega⟩ ?_ ?_
 ·(simp only [go_sem] <;> (first|(and_intros <;> rfl)|simp))
 rintro i ⟨hi3,he⟩
 by_cases hlt3 : i < P.length
 ·have hli : (i : Int) < P.length:=by omega
  have h2 := rowAt_map encLine P i hlt3
  rw [encLine] at h2
  have hkd := kd_lt hlt3
  have hmem := elses_mem (P := P) (n := P.length) (x := (i : Int))
  rw [hEL] at hmem
  generalize P[i].kind = kk at h2 hkd
  by_cases h4 : kk = 4
  ·by_cases hm : (i : Int) ∈ EL
   ·have hmi : ((i : Int) ∈ EL) = True := eq_true hm
    have hnx : ∀ j : Nat,j < i + 1 → kd P j = 4 → ∃ t : Nat,t < P.length ∧ elseOf P t = (j : Int) := fun j a b=>by
     rcases Nat.lt_or_ge j i with c|c
     ·exact he j c b
     ·rw [show j = i by omega]; exact hmem.1 hm
    (repeat' (first|apply zS|apply zB|((first|apply zR|apply zC|apply zT|apply zE|apply zK);simp only [go_sem,hli,h2,h4,hmi])|apply And.intro|intro _))
    all_goals first|omega|exact ⟨i + 1,⟨by omega,hnx⟩,by omega,by (first|(and_intros <;> rfl)|simp)⟩|skip
   ·have hmi : ((i : Int) ∈ EL) = False := eq_false hm
    rw [progOk_no fun q=>hm (hmem.2 (q.elses i hlt3 (hkd.trans h4)))]
    (repeat' (first|apply zS|apply zB|((first|apply zR|apply zC|apply zT|apply zE|apply zK);simp only [go_sem,hli,h2,h4,hmi])|apply And.intro|intro _))
    all_goals first|omega|rfl|skip
  ·have hnx : ∀ j : Nat,j < i + 1 → kd P j = 4 → ∃ t : Nat,t < P.length ∧ elseOf P t = (j : Int) := fun j a b=>by
    rcases Nat.lt_or_ge j i with c|c
    ·exact he j c b
    ·rw [show j = i by omega] at b; exact absurd (hkd.symm.trans b) h4
   (repeat' (first|apply zS|apply zB|((first|apply zR|apply zC|apply zT|apply zE|apply zK);simp only [go_sem,hli,h2,h4])|apply And.intro|intro _))
   all_goals first|omega|exact ⟨i + 1,⟨by omega,hnx⟩,by omega,by (first|(and_intros <;> rfl)|simp)⟩|skip
 have hge3 : ¬ (i : Int) < P.length:=by omega
 by_cases hend : nx = P.length
 ·have hend' : (nx : Int) = P.length:=by omega
  have hok : progOk P = true := progOk_iff'.2 ⟨h60,by rw [hF]; exact ⟨hf1,hf6⟩,hL,hmain,fun t a b=>g2.first t (by omega) b,hfin.2 hend,fun t a b=>he t (by omega) b⟩
  rw [hok]
  (repeat' (first|apply zS|apply zB|((first|apply zR|apply zC|apply zT|apply zE|apply zK);simp only [go_sem,hge3,hend'])|apply And.intro|intro _))
  all_goals first|omega|rfl|(simp; done)|skip
 ·have hend' : ¬ (nx : Int) = P.length:=by omega
  rw [progOk_no fun q=>hend (hfin.1 q.tiles)]
  (repeat' (first|apply zS|apply zB|((first|apply zR|apply zC|apply zT|apply zE|apply zK);simp only [go_sem,hge3,hend'])|apply And.intro|intro _))
  all_goals first|omega|rfl|(simp [hend']; done)|skip
end
end Go.Proofs.YtjjbcoigaejoaaaGreat

