/-
  DERIVED. Several texts of ours in one: VtPg3I, VtPg3S, VtPg4I, VtPg4S, VtRunE, VtRunP, VtRunJ, VtIntS, VcPe, VtRunI, VtSkpI, VtOpnI.
-/
import Derived.Test.YtjjbcoigaejoaaaVd0
import Derived.Test.YtjjbcoigaejoaaaVd1
import Derived.Test.YtjjbcoigaejoaaaVd2
import Derived.Test.YtjjbcoigaejoaaaVd3
import Derived.Test.YtjjbcoigaejoaaaVd4
import Derived.Test.YtjjbcoigaejoaaaVd5
import Derived.Test.YtjjbcoigaejoaaaVd6
import Derived.Test.YtjjbcoigaejoaaaVd7
import Derived.Test.YtjjbcoigaejoaaaVd8
set_option linter.unusedSimpArgs false
set_option linter.unusedVariables false
set_option maxHeartbeats 1000000
set_option maxRecDepth 10000
namespace Go.Proofs.Ytjjbcoigaejoaaa
open Go.Vc
attribute [local irreducible] Go.Vc.WP
attribute [local go_sem] cx0_t cx0_c
attribute [local go_sem] decS_enc decTok_enc decLine_enc oneLine_f line_eta oneTok_f aPk decI_enc St.fzS addL behind St.runO St.stepO St.cutK
theorem LineP.shL {x : Line} (h : LineP x) : shLine x := by
 refine ⟨by have := h.few; omega,?_⟩
 cases hk : hasEx x.kind with
 |true=>have := (exprOk_iff.1 (h.expr hk)).1; omega
 |false=>rw [h.noExpr hk]; simp
theorem LineP.shE {x : Line} (h : LineP x) : x.expr.length ≤ 1048576 := (LineP.shL h).2
theorem LineP.shA {x : Line} (h : LineP x) : x.args.length ≤ 1048576 := (LineP.shL h).1
def kLclZ : Ctr := pur aPk (fun x=>[.sl 4 (x.1.map encLine),.v (.int .i64 x.2)]) (fun x=>x.1.length ≤ 1048576 ∧ ∀ y ∈ x.1,shLine y) (fun _ x=>.sl 1 ((localsOf x.1 x.2).map encS)) (fun _ _=>[])
theorem cLclZI : Cn Try.prog 109 kLclZ := Cn.frozen (fun _=>allV_S' _) cLclI
noncomputable def kFnOk : Ctr := pur (fun args=>(decLine (aR args 0),aI args 1,aI args 2)) (fun x=>[.sl 4 (x.1.map encLine),.v (.int .i64 x.2.1),.v (.int .i64 x.2.2)])
 (fun x=>x.1.length ≤ 60 ∧ (∀ y ∈ x.1,LineP y) ∧ ∃ k e : Nat,x.2.1 = k ∧ x.2.2 = e ∧ kd x.1 k = 0 ∧ IsEnd x.1 k e)
 (fun _ x=>.v (.bool (bodyIB x.1 x.2.1.toNat x.2.2.toNat))) (fun _ _=>[])
section
attribute [local irreducible] shLine
noncomputable def cxFnOkI := mkX [(109,kLclZ),(82,kBlk),(110,kKnown)] (COk.cons cLclZI (COk.cons cBlkI (COk.cons cKnownI (COk.nil _))))
theorem cxFnOkI_t : cxFnOkI.tys = tys := rfl
theorem cxFnOkI_c : cxFnOkI.C = [(109,kLclZ),(82,kBlk),(110,kKnown)] := rfl
attribute [local go_sem] cxFnOkI_t cxFnOkI_c kLclZ kBlk kKnown
set_option maxHeartbeats 16000000
theorem cFnOkI : Cn Try.prog 84 kFnOk := by
 refine Cn.pur Try.func84 (by kernel_rfl) rfl fun d x hx=>?_
 obtain ⟨P,k0,e0⟩ := x
 obtain ⟨hx,hL,k,e,hk0,he0,hk,hE⟩ := hx
 simp only at hx hL hk0 he0 hk hE
 subst hk0 he0
 have hsh : ∀ y ∈ P,shLine y := fun y hy=>LineP.shL (hL y hy)
 have hel := hE.lt
 have hke := hE.lt' hk
 simp only [Int.toNat_natCast]
 refine Holds.go (c := cxFnOkI) Try.func84 rfl Try.results84 Try.ntmps84 (by omega) (by simp) rfl ?_
 intro X0 w0
 have lk0 : lk 0 tys = none := rfl
 generalize hA : localsOf P k = A
 by_cases h8 : A.length ≤ 8
 rotate_left
 ·have h8' : (8 : Int) < A.length:=by omega
  rw [bodyIB_no (P := P) (k := k) (e := e) fun q=>h8 (by have := q.1; rw [hA] at this; exact this)]
  (repeat' (first|apply zS|apply zB|((first|apply zR|apply zC|apply zT|apply zE|apply zK);simp only [go_sem,hA,h8'])|apply And.intro|intro _))
  all_goals first|omega|rfl|assumption|exact hsh _ ‹_›|skip
 have h8' : ¬ (8 : Int) < A.length:=by omega
 (repeat' (first|apply zS|apply zB|((first|apply zR|apply zC|apply zT|apply zE|apply zK);simp only [go_sem,hA,h8'])|apply And.intro|intro _))
 all_goals first|omega|assumption|exact hsh _ ‹_›|skip
 refine zL (fun s : Nat × List Int=>⟨[(0,.sl 4 (P.map encLine)),(2,.v (.int .i64 e)),(7,.sl 1 (A.map encS)),(8,.own 16),(9,.v (.int .i64 s.1))],[(16,.sl 3 1 (s.2.map encI))]⟩)
  (fun s=>k < s.1 ∧ s.1 ≤ e + 1 ∧ s.2.length ≤ s.1 ∧ (∀ t : Nat,k < t → t < s.1 → condI P k t) ∧ (s.1 ≤ e → Stk P (sumTo P (k + 1)) s.1 (popL s.1 s.2))) (fun s=>e + 1 - s.1) (k + 1,[])
  ⟨by simp only; omega,by simp only; omega,by simp,fun t a b=>by simp only at b; omega,fun _=>.nil rfl⟩ ?_ ?_
 ·(simp only [go_sem] <;> (first|(and_intros <;> rfl)|simp))
 rintro ⟨i,L⟩ ⟨q1,q2,q3,q4,q5⟩
 simp only at q1 q2 q3 q4 q5 ⊢
 by_cases hlt : i ≤ e
 rotate_left
 ·have hge : ¬ (i : Int) ≤ (e : Int):=by omega
  rw [bodyIB_yes (P := P) (k := k) (e := e) ⟨by rw [hA]; exact h8,fun t a b=>q4 t a (by omega)⟩]
  (repeat' (first|apply zS|apply zB|((first|apply zR|apply zC|apply zT|apply zE|apply zK);simp only [go_sem,hge])|apply And.intro|intro _))
  all_goals first|omega|rfl|exact hsh _ ‹_›|skip
 have hli : (i : Int) ≤ (e : Int):=by omega
 have hiP : i < P.length:=by omega
 (repeat' (first|apply zS|apply zB|((first|apply zR|apply zC|apply zT|apply zE|apply zK);simp only [go_sem,hli])|apply And.intro|intro _))
 all_goals first|omega|skip
 refine zL (fun M : List Int=>⟨[(0,.sl 4 (P.map encLine)),(2,.v (.int .i64 e)),(7,.sl 1 (A.map encS)),(8,.own 16),(9,.v (.int .i64 i))],[(16,.sl 3 1 (M.map encI))]⟩)
  (fun M=>popL i M = popL i L ∧ M.length ≤ L.length) (fun M=>M.length) L ⟨rfl,Nat.le_refl _⟩ ?_ ?_
 ·(simp only [go_sem] <;> (first|(and_intros <;> rfl)|simp))
 rintro M ⟨m1,m2⟩
 rcases List.eq_nil_or_concat M with hM|⟨M0,x,hM⟩
 ·have hpos : ¬ (0 : Int) < (M.length : Int):=by rw [hM]; simp
  have hrow : Go.Vc.rowAt (M.map encI) ((M.length : Int) - 1).toNat = []:=by rw [hM]; rfl
  have hS : popL i M = M:=by rw [hM]; rfl
  have hSt := q5 hlt
  rw [← m1,hS] at hSt
  have hlen := hSt.len
  have hs4 := sumTo_bound P i
  have h2 := rowAt_map encLine P i hiP
  rw [encLine] at h2
  have hkd := kd_lt hiP
  have hex := exprAt_lt hiP
  have hyl := hL _ (List.getElem_mem hiP)
  have hel2 : P[i].expr.length ≤ 1048576 := LineP.shE hyl
  generalize P[i].kind = kk at h2 hkd
  generalize P[i].expr = EE at h2 hex hel2
  generalize hz : endOf P i = z
  by_cases k0 : kk = 0
  ·rw [condI_no (P := P) (k := k) q1 hlt (fun q=>q.kn (by rw [hkd]; exact k0))]
   (repeat' (first|apply zS|apply zB|((first|refine WP.regionO (id := 8) ?_); simp only [go_sem,hpos,hrow,h2,k0])|((first|apply zR|apply zC|apply zT|apply zE|apply zK);simp only [go_sem,hpos,hrow,h2,k0])|apply And.intro|intro _))
   all_goals first|omega|rfl|exact hsh _ ‹_›|skip
  by_cases k35 : kk = 3 ∨ kk = 5
  ·have hln : (M.map encI ++ [[SV.v (.int .i64 z)]]).length = M.length + 1:=by simp
   have hcd : condI P k i ↔ ((M.length + 1 ≤ 4) ∧ knownE P A EE = true) := by
    unfold condI
    rw [hkd,if_pos k35,hex,hA]
    constructor
    ·rintro ⟨_,b,c⟩; exact ⟨by omega,c⟩
    ·rintro ⟨b,c⟩; exact ⟨k0,by omega,c⟩
   by_cases h4 : M.length + 1 ≤ 4
   ·have h4a : ¬ (4 : Int) < ((M.length + 1 : Nat) : Int):=by omega
    have h4b : ¬ (4 : Int) < (M.length : Int) + 1:=by omega
    cases hkn : knownE P A EE with
    |true =>
     have hnx : ∀ t : Nat,k < t → t < i + 1 → condI P k t := fun t a b=>by
      rcases Nat.lt_or_ge t i with c|c
      ·exact q4 t a c
      ·rw [show t = i by omega]; exact hcd.2 ⟨h4,hkn⟩
     have hst : i + 1 ≤ e → Stk P (sumTo P (k + 1)) (i + 1) (popL ((i + 1 : Nat) : Int) (M ++ [z])) := fun q=>by
      have := hSt.next hk hE q1 (by omega) (by rw [hkd]; exact k0)
      rw [hkd,if_pos k35,hz] at this; exact this
     rcases k35 with k35|k35
     ·(repeat' (first|apply zS|apply zB|((first|refine WP.regionO (id := 8) ?_); simp only [go_sem,hpos,hrow,h2,k35,hz,hln,h4a,h4b,hkn])|((first|apply zR|apply zC|apply zT|apply zE|apply zK);simp only [go_sem,hpos,hrow,h2,k35,hz,hln,h4a,h4b,hkn])|apply And.intro|intro _))
      all_goals first|omega|rfl|exact hsh _ ‹_›|exact ⟨(i + 1,M ++ [z]),⟨by simp only; omega,by simp only; omega,by simp only [List.length_append,List.length_cons,List.length_nil]; omega,hnx,hst⟩,by simp only; omega,by simp only [List.map_append,List.map_cons,List.map_nil,encI]; (first|(and_intros <;> rfl)|simp)⟩|skip
     ·(repeat' (first|apply zS|apply zB|((first|refine WP.regionO (id := 8) ?_); simp only [go_sem,hpos,hrow,h2,k35,hz,hln,h4a,h4b,hkn])|((first|apply zR|apply zC|apply zT|apply zE|apply zK);simp only [go_sem,hpos,hrow,h2,k35,hz,hln,h4a,h4b,hkn])|apply And.intro|intro _))
      all_goals first|omega|rfl|exact hsh _ ‹_›|exact ⟨(i + 1,M ++ [z]),⟨by simp only; omega,by simp only; omega,by simp only [List.length_append,List.length_cons,List.length_nil]; omega,hnx,hst⟩,by simp only; omega,by simp only [List.map_append,List.map_cons,List.map_nil,encI]; (first|(and_intros <;> rfl)|simp)⟩|skip
    |false =>
     rw [condI_no (P := P) (k := k) q1 hlt (fun q=>by have := (hcd.1 q).2; rw [hkn] at this; cases this)]
     rcases k35 with k35|k35
     ·(repeat' (first|apply zS|apply zB|((first|refine WP.regionO (id := 8) ?_); simp only [go_sem,hpos,hrow,h2,k35,hz,hln,h4a,h4b,hkn])|((first|apply zR|apply zC|apply zT|apply zE|apply zK);simp only [go_sem,hpos,hrow,h2,k35,hz,hln,h4a,h4b,hkn])|apply And.intro|intro _))
      all_goals first|omega|rfl|exact hsh _ ‹_›|skip
     ·(repeat' (first|apply zS|apply zB|((first|refine WP.regionO (id := 8) ?_); simp only [go_sem,hpos,hrow,h2,k35,hz,hln,h4a,h4b,hkn])|((first|apply zR|apply zC|apply zT|apply zE|apply zK);simp only [go_sem,hpos,hrow,h2,k35,hz,hln,h4a,h4b,hkn])|apply And.intro|intro _))
      all_goals first|omega|rfl|exact hsh _ ‹_›|skip
   ·have h4a : (4 : Int) < ((M.length + 1 : Nat) : Int):=by omega
    have h4b : (4 : Int) < (M.length : Int) + 1:=by omega
    rw [condI_no (P := P) (k := k) q1 hlt (fun q=>h4 (hcd.1 q).1)]
    rcases k35 with k35|k35
    ·(repeat' (first|apply zS|apply zB|((first|refine WP.regionO (id := 8) ?_); simp only [go_sem,hpos,hrow,h2,k35,hz,hln,h4a,h4b])|((first|apply zR|apply zC|apply zT|apply zE|apply zK);simp only [go_sem,hpos,hrow,h2,k35,hz,hln,h4a,h4b])|apply And.intro|intro _))
     all_goals first|omega|rfl|exact hsh _ ‹_›|skip
    ·(repeat' (first|apply zS|apply zB|((first|refine WP.regionO (id := 8) ?_); simp only [go_sem,hpos,hrow,h2,k35,hz,hln,h4a,h4b])|((first|apply zR|apply zC|apply zT|apply zE|apply zK);simp only [go_sem,hpos,hrow,h2,k35,hz,hln,h4a,h4b])|apply And.intro|intro _))
     all_goals first|omega|rfl|exact hsh _ ‹_›|skip
  ·have n3 : ¬ kk = 3 := fun e=>k35 (.inl e)
   have n5 : ¬ kk = 5 := fun e=>k35 (.inr e)
   have hcd : condI P k i ↔ (M.length ≤ 4 ∧ knownE P A EE = true) := by
    unfold condI
    rw [hkd,if_neg k35,hex,hA]
    constructor
    ·rintro ⟨_,b,c⟩; exact ⟨by omega,c⟩
    ·rintro ⟨b,c⟩; exact ⟨k0,by omega,c⟩
   by_cases h4 : M.length ≤ 4
   ·have h4a : ¬ (4 : Int) < (M.length : Int):=by omega
    cases hkn : knownE P A EE with
    |true =>
     have hnx : ∀ t : Nat,k < t → t < i + 1 → condI P k t := fun t a b=>by
      rcases Nat.lt_or_ge t i with c|c
      ·exact q4 t a c
      ·rw [show t = i by omega]; exact hcd.2 ⟨h4,hkn⟩
     have hst : i + 1 ≤ e → Stk P (sumTo P (k + 1)) (i + 1) (popL ((i + 1 : Nat) : Int) M) := fun q=>by
      have := hSt.next hk hE q1 (by omega) (by rw [hkd]; exact k0)
      rw [hkd,if_neg k35] at this; exact this
     (repeat' (first|apply zS|apply zB|((first|refine WP.regionO (id := 8) ?_); simp only [go_sem,hpos,hrow,h2,k0,n3,n5,h4a,hkn])|((first|apply zR|apply zC|apply zT|apply zE|apply zK);simp only [go_sem,hpos,hrow,h2,k0,n3,n5,h4a,hkn])|apply And.intro|intro _))
     all_goals first|omega|rfl|exact hsh _ ‹_›|exact ⟨(i + 1,M),⟨by simp only; omega,by simp only; omega,by simp only; omega,hnx,hst⟩,by simp only; omega,by (first|(and_intros <;> rfl)|simp)⟩|skip
    |false =>
     rw [condI_no (P := P) (k := k) q1 hlt (fun q=>by have := (hcd.1 q).2; rw [hkn] at this; cases this)]
     (repeat' (first|apply zS|apply zB|((first|refine WP.regionO (id := 8) ?_); simp only [go_sem,hpos,hrow,h2,k0,n3,n5,h4a,hkn])|((first|apply zR|apply zC|apply zT|apply zE|apply zK);simp only [go_sem,hpos,hrow,h2,k0,n3,n5,h4a,hkn])|apply And.intro|intro _))
     all_goals first|omega|rfl|exact hsh _ ‹_›|skip
   ·have h4a : (4 : Int) < (M.length : Int):=by omega
    rw [condI_no (P := P) (k := k) q1 hlt (fun q=>h4 (hcd.1 q).1)]
    (repeat' (first|apply zS|apply zB|((first|refine WP.regionO (id := 8) ?_); simp only [go_sem,hpos,hrow,h2,k0,n3,n5,h4a])|((first|apply zR|apply zC|apply zT|apply zE|apply zK);simp only [go_sem,hpos,hrow,h2,k0,n3,n5,h4a])|apply And.intro|intro _))
    all_goals first|omega|rfl|exact hsh _ ‹_›|skip
 ·rw [List.concat_eq_append] at hM
  have hml : M.length = M0.length + 1:=by rw [hM]; simp
  have hpos : (0 : Int) < (M.length : Int):=by omega
  have hrow : Go.Vc.rowAt (M.map encI) ((M.length : Int) - 1).toNat = [.v (.int .i64 x)] := by
   rw [show ((M.length : Int) - 1).toNat = M0.length by omega,hM]
   unfold Go.Vc.rowAt
   simp [encI]
  by_cases hxi : x < (i : Int)
  ·have htk : List.take ((M.length : Int) - 1).toNat (M.map encI) = M0.map encI := by
    rw [show ((M.length : Int) - 1).toNat = M0.length by omega,hM,List.map_append,List.take_left' (by rw [List.length_map])]
   have hp : popL i M0 = popL i L:=by rw [← m1,hM,popL_lt _ hxi]
   (repeat' (first|apply zS|apply zB|((first|refine WP.regionO (id := 8) ?_|refine WP.regionCut6 (id := 9) ?_); simp only [go_sem,hpos,hrow,hxi,htk])|((first|apply zR|apply zC|apply zT|apply zE|apply zK);simp only [go_sem,hpos,hrow,hxi,htk])|apply And.intro|intro _))
   all_goals first|omega|rfl|exact hsh _ ‹_›|exact ⟨M0,⟨hp,by omega⟩,by omega,by (first|(and_intros <;> rfl)|simp)⟩|skip
  have hS : popL i M = M:=by rw [hM,popL_ge _ hxi]
  have hSt := q5 hlt
  rw [← m1,hS] at hSt
  have hlen := hSt.len
  have hs4 := sumTo_bound P i
  have h2 := rowAt_map encLine P i hiP
  rw [encLine] at h2
  have hkd := kd_lt hiP
  have hex := exprAt_lt hiP
  have hyl := hL _ (List.getElem_mem hiP)
  have hel2 : P[i].expr.length ≤ 1048576 := LineP.shE hyl
  generalize P[i].kind = kk at h2 hkd
  generalize P[i].expr = EE at h2 hex hel2
  generalize hz : endOf P i = z
  by_cases k0 : kk = 0
  ·rw [condI_no (P := P) (k := k) q1 hlt (fun q=>q.kn (by rw [hkd]; exact k0))]
   (repeat' (first|apply zS|apply zB|((first|apply zR|apply zC|apply zT|apply zE|apply zK);simp only [go_sem,hpos,hrow,hxi,h2,k0])|apply And.intro|intro _))
   all_goals first|omega|rfl|exact hsh _ ‹_›|skip
  by_cases k35 : kk = 3 ∨ kk = 5
  ·have hln : (M.map encI ++ [[SV.v (.int .i64 z)]]).length = M.length + 1:=by simp
   have hcd : condI P k i ↔ ((M.length + 1 ≤ 4) ∧ knownE P A EE = true) := by
    unfold condI
    rw [hkd,if_pos k35,hex,hA]
    constructor
    ·rintro ⟨_,b,c⟩; exact ⟨by omega,c⟩
    ·rintro ⟨b,c⟩; exact ⟨k0,by omega,c⟩
   by_cases h4 : M.length + 1 ≤ 4
   ·have h4a : ¬ (4 : Int) < ((M.length + 1 : Nat) : Int):=by omega
    have h4b : ¬ (4 : Int) < (M.length : Int) + 1:=by omega
    cases hkn : knownE P A EE with
    |true =>
     have hnx : ∀ t : Nat,k < t → t < i + 1 → condI P k t := fun t a b=>by
      rcases Nat.lt_or_ge t i with c|c
      ·exact q4 t a c
      ·rw [show t = i by omega]; exact hcd.2 ⟨h4,hkn⟩
     have hst : i + 1 ≤ e → Stk P (sumTo P (k + 1)) (i + 1) (popL ((i + 1 : Nat) : Int) (M ++ [z])) := fun q=>by
      have := hSt.next hk hE q1 (by omega) (by rw [hkd]; exact k0)
      rw [hkd,if_pos k35,hz] at this; exact this
     rcases k35 with k35|k35
     ·(repeat' (first|apply zS|apply zB|((first|apply zR|apply zC|apply zT|apply zE|apply zK);simp only [go_sem,hpos,hrow,hxi,h2,k35,hz,hln,h4a,h4b,hkn])|apply And.intro|intro _))
      all_goals first|omega|rfl|exact hsh _ ‹_›|exact ⟨(i + 1,M ++ [z]),⟨by simp only; omega,by simp only; omega,by simp only [List.length_append,List.length_cons,List.length_nil]; omega,hnx,hst⟩,by simp only; omega,by simp only [List.map_append,List.map_cons,List.map_nil,encI]; (first|(and_intros <;> rfl)|simp)⟩|skip
     ·(repeat' (first|apply zS|apply zB|((first|apply zR|apply zC|apply zT|apply zE|apply zK);simp only [go_sem,hpos,hrow,hxi,h2,k35,hz,hln,h4a,h4b,hkn])|apply And.intro|intro _))
      all_goals first|omega|rfl|exact hsh _ ‹_›|exact ⟨(i + 1,M ++ [z]),⟨by simp only; omega,by simp only; omega,by simp only [List.length_append,List.length_cons,List.length_nil]; omega,hnx,hst⟩,by simp only; omega,by simp only [List.map_append,List.map_cons,List.map_nil,encI]; (first|(and_intros <;> rfl)|simp)⟩|skip
    |false =>
     rw [condI_no (P := P) (k := k) q1 hlt (fun q=>by have := (hcd.1 q).2; rw [hkn] at this; cases this)]
     rcases k35 with k35|k35
     ·(repeat' (first|apply zS|apply zB|((first|apply zR|apply zC|apply zT|apply zE|apply zK);simp only [go_sem,hpos,hrow,hxi,h2,k35,hz,hln,h4a,h4b,hkn])|apply And.intro|intro _))
      all_goals first|omega|rfl|exact hsh _ ‹_›|skip
     ·(repeat' (first|apply zS|apply zB|((first|apply zR|apply zC|apply zT|apply zE|apply zK);simp only [go_sem,hpos,hrow,hxi,h2,k35,hz,hln,h4a,h4b,hkn])|apply And.intro|intro _))
      all_goals first|omega|rfl|exact hsh _ ‹_›|skip
   ·have h4a : (4 : Int) < ((M.length + 1 : Nat) : Int):=by omega
    have h4b : (4 : Int) < (M.length : Int) + 1:=by omega
    rw [condI_no (P := P) (k := k) q1 hlt (fun q=>h4 (hcd.1 q).1)]
    rcases k35 with k35|k35
    ·(repeat' (first|apply zS|apply zB|((first|apply zR|apply zC|apply zT|apply zE|apply zK);simp only [go_sem,hpos,hrow,hxi,h2,k35,hz,hln,h4a,h4b])|apply And.intro|intro _))
     all_goals first|omega|rfl|exact hsh _ ‹_›|skip
    ·(repeat' (first|apply zS|apply zB|((first|apply zR|apply zC|apply zT|apply zE|apply zK);simp only [go_sem,hpos,hrow,hxi,h2,k35,hz,hln,h4a,h4b])|apply And.intro|intro _))
     all_goals first|omega|rfl|exact hsh _ ‹_›|skip
  ·have n3 : ¬ kk = 3 := fun e=>k35 (.inl e)
   have n5 : ¬ kk = 5 := fun e=>k35 (.inr e)
   have hcd : condI P k i ↔ (M.length ≤ 4 ∧ knownE P A EE = true) := by
    unfold condI
    rw [hkd,if_neg k35,hex,hA]
    constructor
    ·rintro ⟨_,b,c⟩; exact ⟨by omega,c⟩
    ·rintro ⟨b,c⟩; exact ⟨k0,by omega,c⟩
   by_cases h4 : M.length ≤ 4
   ·have h4a : ¬ (4 : Int) < (M.length : Int):=by omega
    cases hkn : knownE P A EE with
    |true =>
     have hnx : ∀ t : Nat,k < t → t < i + 1 → condI P k t := fun t a b=>by
      rcases Nat.lt_or_ge t i with c|c
      ·exact q4 t a c
      ·rw [show t = i by omega]; exact hcd.2 ⟨h4,hkn⟩
     have hst : i + 1 ≤ e → Stk P (sumTo P (k + 1)) (i + 1) (popL ((i + 1 : Nat) : Int) M) := fun q=>by
      have := hSt.next hk hE q1 (by omega) (by rw [hkd]; exact k0)
      rw [hkd,if_neg k35] at this; exact this
     (repeat' (first|apply zS|apply zB|((first|apply zR|apply zC|apply zT|apply zE|apply zK);simp only [go_sem,hpos,hrow,hxi,h2,k0,n3,n5,h4a,hkn])|apply And.intro|intro _))
     all_goals first|omega|rfl|exact hsh _ ‹_›|exact ⟨(i + 1,M),⟨by simp only; omega,by simp only; omega,by simp only; omega,hnx,hst⟩,by simp only; omega,by (first|(and_intros <;> rfl)|simp)⟩|skip
    |false =>
     rw [condI_no (P := P) (k := k) q1 hlt (fun q=>by have := (hcd.1 q).2; rw [hkn] at this; cases this)]
     (repeat' (first|apply zS|apply zB|((first|apply zR|apply zC|apply zT|apply zE|apply zK);simp only [go_sem,hpos,hrow,hxi,h2,k0,n3,n5,h4a,hkn])|apply And.intro|intro _))
     all_goals first|omega|rfl|exact hsh _ ‹_›|skip
   ·have h4a : (4 : Int) < (M.length : Int):=by omega
    rw [condI_no (P := P) (k := k) q1 hlt (fun q=>h4 (hcd.1 q).1)]
    (repeat' (first|apply zS|apply zB|((first|apply zR|apply zC|apply zT|apply zE|apply zK);simp only [go_sem,hpos,hrow,hxi,h2,k0,n3,n5,h4a])|apply And.intro|intro _))
    all_goals first|omega|rfl|exact hsh _ ‹_›|skip
end
end Go.Proofs.Ytjjbcoigaejoaaa

namespace Go.Proofs.Ytjjbcoigaejoaaa
open Go.Vc
attribute [local irreducible] Go.Vc.WP
attribute [local go_sem] cx0_t cx0_c
attribute [local go_sem] decS_enc decTok_enc decLine_enc oneLine_f line_eta oneTok_f aPk decI_enc St.fzS addL behind St.runO St.stepO
theorem cLclZS : Cn Try.prog 66 kLclZ := Cn.frozen (fun _=>allV_S' _) cLclS
def swJ (P : List Line) (k i : Nat) (dp kk d : Int) : Prop := d = dp + delta kk ∧ kk ≠ 0 ∧ (kk = 4 → ∃ j : Nat,k ≤ j ∧ j < i ∧ elseOf P j = (i : Int))
noncomputable def kBody : Ctr := pur (fun args=>(decLine (aR args 0),aI args 1,aI args 2)) (fun x=>[.sl 4 (x.1.map encLine),.v (.int .i64 x.2.1),.v (.int .i64 x.2.2)])
 (fun x=>x.1.length ≤ 60 ∧ (∀ y ∈ x.1,LineP y) ∧ ∃ k e : Nat,x.2.1 = k ∧ x.2.2 = e ∧ kd x.1 k = 0 ∧ IsEnd x.1 k e)
 (fun _ x=>.v (.bool (bodySB x.1 x.2.1.toNat x.2.2.toNat))) (fun _ _=>[])
section
attribute [local irreducible] shLine
noncomputable def cxBody := mkX [(66,kLclZ),(67,kElse),(63,kFind),(70,kIdxS)] (COk.cons cLclZS (COk.cons cElseS (COk.cons cFindS (COk.cons cIdxSS (COk.nil _)))))
theorem cxBody_t : cxBody.tys = tys := rfl
theorem cxBody_c : cxBody.C = [(66,kLclZ),(67,kElse),(63,kFind),(70,kIdxS)] := rfl
attribute [local go_sem] cxBody_t cxBody_c kLclZ kElse kFind kIdxS
set_option maxHeartbeats 32000000
theorem cBody : Cn Try.prog 65 kBody := by
 refine Cn.pur Try.func65 (by kernel_rfl) rfl fun d x hx=>?_
 obtain ⟨P,k0,e0⟩ := x
 obtain ⟨hx,hL,k,e,hk0,he0,hk,hE⟩ := hx
 simp only at hx hL hk0 he0 hk hE
 subst hk0 he0
 have hsh : ∀ y ∈ P,shLine y := fun y hy=>LineP.shL (hL y hy)
 have hel := hE.lt
 have hke := hE.lt' hk
 simp only [Int.toNat_natCast]
 refine Holds.go (c := cxBody) Try.func65 rfl Try.results65 Try.ntmps65 (by omega) (by simp) rfl ?_
 intro X0 w0
 have lk0 : lk 0 tys = none := rfl
 generalize hA : localsOf P k = A
 by_cases h8 : A.length ≤ 8
 rotate_left
 ·have h8' : (8 : Int) < A.length:=by omega
  rw [bodySB_no (P := P) (k := k) (e := e) fun q=>h8 (by have := q.1; rw [hA] at this; exact this)]
  (repeat' (first|apply zS|apply zB|((first|apply zR|apply zC|apply zT|apply zE|apply zK| refine zD 13 (by decide +kernel) (by kernel_rfl) ?_); simp only [go_sem,hA,h8'])|apply And.intro|intro _))
  all_goals first|omega|rfl|assumption|exact hsh _ ‹_›|skip
 have h8' : ¬ (8 : Int) < A.length:=by omega
 (repeat' (first|apply zS|apply zB|((first|apply zR|apply zC|apply zT|apply zE|apply zK| refine zD 13 (by decide +kernel) (by kernel_rfl) ?_); simp only [go_sem,hA,h8'])|apply And.intro|intro _))
 all_goals first|omega|assumption|exact hsh _ ‹_›|skip
 refine zL (fun s : Nat × Int=>⟨[(0,.sl 4 (P.map encLine)),(1,.v (.int .i64 k)),(2,.v (.int .i64 e)),(7,.sl 1 (A.map encS)),(8,.v (.int .i64 s.2)),(9,.v (.int .i64 s.1))],[]⟩)
  (fun s=>k < s.1 ∧ s.1 ≤ e ∧ s.2 = sumTo P s.1 - sumTo P (k + 1) ∧ (∀ t : Nat,k < t → t < s.1 → condS P k t)) (fun s=>e - s.1) (k + 1,0)
  ⟨by simp only; omega,by simp only; omega,by simp only; omega,fun t a b=>by simp only at b; omega⟩ ?_ ?_
 ·(simp only [go_sem] <;> (first|(and_intros <;> rfl)|simp))
 rintro ⟨i,dp⟩ ⟨q1,q2,q3,q4⟩
 simp only at q1 q2 q3 q4 ⊢
 by_cases hlt : i < e
 rotate_left
 ·have hge : ¬ (i : Int) < (e : Int):=by omega
  rw [bodySB_yes (P := P) (k := k) (e := e) ⟨by rw [hA]; exact h8,fun t a b=>q4 t a (by omega)⟩]
  (repeat' (first|apply zS|apply zB|((first|apply zR|apply zC|apply zT|apply zE|apply zK| refine zD 13 (by decide +kernel) (by kernel_rfl) ?_); simp only [go_sem,hge])|apply And.intro|intro _))
  all_goals first|omega|rfl|exact hsh _ ‹_›|skip
 have hli : (i : Int) < (e : Int):=by omega
 have hiP : i < P.length:=by omega
 have hs4 := sumTo_bound P i
 have hs5 := sumTo_bound P (k + 1)
 have hs6 : sumTo P (i + 1) = sumTo P i + delta (kd P i) := rfl
 have h2 := rowAt_map encLine P i hiP
 rw [encLine] at h2
 have hkd := kd_lt hiP
 have hex := exprAt_lt hiP
 have hel2 : P[i].expr.length ≤ 1048576 := LineP.shE (hL _ (List.getElem_mem hiP))
 generalize P[i].kind = kk at h2 hkd
 generalize P[i].expr = EE at h2 hex hel2
 rw [hkd] at hs6
 (repeat' ((fail_if_success refine WP.atBlk (b := 2) ?_); first|apply zS|apply zB|((first|apply zR|apply zC|apply zT|apply zE|apply zK| refine zD 13 (by decide +kernel) (by kernel_rfl) ?_); simp only [go_sem,hli,h2])|apply And.intro|intro _))
 all_goals first|omega|skip
 refine WP.mid (fun d : Int=>⟨[(0,.sl 4 (P.map encLine)),(1,.v (.int .i64 k)),(2,.v (.int .i64 e)),(7,.sl 1 (A.map encS)),(8,.v (.int .i64 d)),(9,.v (.int .i64 i))],[]⟩)
  (swJ P k i dp kk) ?_ ?_
 ·by_cases k0 : kk = 0
  ·rw [condS_no (P := P) (k := k) q1 hlt (fun q=>q.kn (by rw [hkd]; exact k0))]
   (repeat' (first|apply zS|apply zB|((first|apply zR|apply zC|apply zT|apply zE|apply zK| refine zD 13 (by decide +kernel) (by kernel_rfl) ?_); simp only [go_sem,k0])|apply And.intro|intro _))
   all_goals first|omega|rfl|skip
  by_cases k3 : kk = 3
  ·have hdl : delta kk = 1:=by rw [k3]; rfl
   have hk4 : ¬ kk = 4:=by omega
   have hJ : swJ P k i dp kk (dp + 1) := ⟨by rw [hdl],k0,fun c=>absurd c hk4⟩
   (repeat' (first|apply zS|apply zB|((first|apply zR|apply zC|apply zT|apply zE|apply zK| refine zD 13 (by decide +kernel) (by kernel_rfl) ?_); simp only [go_sem,k3])|apply And.intro|intro _))
   all_goals first|omega|rfl|exact ⟨dp + 1,hJ,by (first|(and_intros <;> rfl)|simp)⟩|exact ⟨dp + 1,by rw [← k3]; exact hJ,by (first|(and_intros <;> rfl)|simp)⟩|skip
  by_cases k5 : kk = 5
  ·have hdl : delta kk = 1:=by rw [k5]; rfl
   have hk4 : ¬ kk = 4:=by omega
   have hJ : swJ P k i dp kk (dp + 1) := ⟨by rw [hdl],k0,fun c=>absurd c hk4⟩
   (repeat' (first|apply zS|apply zB|((first|apply zR|apply zC|apply zT|apply zE|apply zK| refine zD 13 (by decide +kernel) (by kernel_rfl) ?_); simp only [go_sem,k5])|apply And.intro|intro _))
   all_goals first|omega|rfl|exact ⟨dp + 1,hJ,by (first|(and_intros <;> rfl)|simp)⟩|exact ⟨dp + 1,by rw [← k5]; exact hJ,by (first|(and_intros <;> rfl)|simp)⟩|skip
  by_cases k7 : kk = 7
  ·have hdl : delta kk = -1:=by rw [k7]; rfl
   have hk4 : ¬ kk = 4:=by omega
   have hJ : swJ P k i dp kk (dp - 1) := ⟨by rw [hdl]; omega,k0,fun c=>absurd c hk4⟩
   (repeat' (first|apply zS|apply zB|((first|apply zR|apply zC|apply zT|apply zE|apply zK| refine zD 13 (by decide +kernel) (by kernel_rfl) ?_); simp only [go_sem,k7])|apply And.intro|intro _))
   all_goals first|omega|rfl|exact ⟨dp - 1,hJ,by (first|(and_intros <;> rfl)|simp)⟩|exact ⟨dp - 1,by rw [← k7]; exact hJ,by (first|(and_intros <;> rfl)|simp)⟩|skip
  have hdl : delta kk = 0 := delta_else (opensK_f k0 k3 k5) k7
  by_cases hk4 : kk = 4
  rotate_left
  ·have hJ : swJ P k i dp kk dp := ⟨by rw [hdl]; omega,k0,fun c=>absurd c hk4⟩
   (repeat' (first|apply zS|apply zB|((first|apply zR|apply zC|apply zT|apply zE|apply zK| refine zD 13 (by decide +kernel) (by kernel_rfl) ?_); simp only [go_sem,k0,k3,k5,k7,hk4])|apply And.intro|intro _))
   all_goals first|omega|rfl|exact ⟨dp,hJ,by (first|(and_intros <;> rfl)|simp)⟩|skip
  (repeat' (first|apply zS|apply zB|((first|apply zR|apply zC|apply zT|apply zE|apply zK| refine zD 13 (by decide +kernel) (by kernel_rfl) ?_); simp only [go_sem,hk4])|apply And.intro|intro _))
  all_goals first|omega|skip
  refine zL (fun s : Nat × Bool=>⟨[(0,.sl 4 (P.map encLine)),(1,.v (.int .i64 k)),(2,.v (.int .i64 e)),(7,.sl 1 (A.map encS)),(8,.v (.int .i64 dp)),(9,.v (.int .i64 i)),(10,.v (.bool s.2)),(11,.v (.int .i64 s.1))],[]⟩)
   (fun s=>k ≤ s.1 ∧ s.1 ≤ i ∧ (s.2 = true ↔ ∃ j : Nat,k ≤ j ∧ j < s.1 ∧ elseOf P j = (i : Int))) (fun s=>i - s.1) (k,false) ⟨Nat.le_refl _,by simp only; omega,⟨(fun h=>by simp at h),fun ⟨j,a,b,_⟩=>by simp only at b; omega⟩⟩ ?_ ?_
  ·(simp only [go_sem] <;> (first|(and_intros <;> rfl)|simp))
  rintro ⟨j,fb⟩ ⟨g1,g2,g3⟩
  simp only at g1 g2 g3 ⊢
  by_cases hltf : j < i
  ·have hlif : (j : Int) < (i : Int):=by omega
   cases fb with
   |true =>
    obtain ⟨j0,a,b,c⟩ := g3.1 rfl
    have hnx : (true = true ↔ ∃ t : Nat,k ≤ t ∧ t < j + 1 ∧ elseOf P t = (i : Int)) := ⟨fun _=>⟨j0,a,by omega,c⟩,fun _=>rfl⟩
    (repeat' (first|apply zS|apply zB|((first|apply zR|apply zC|apply zT|apply zE|apply zK| refine zD 13 (by decide +kernel) (by kernel_rfl) ?_); simp only [go_sem,hlif])|apply And.intro|intro _))
    all_goals first|omega|exact ⟨(j + 1,true),⟨by simp only; omega,by simp only; omega,hnx⟩,by simp only; omega,by (first|(and_intros <;> rfl)|simp)⟩|skip
   |false =>
    have hz : ∀ t : Nat,k ≤ t → t < j → ¬ elseOf P t = (i : Int) := fun t a b c=>by have := g3.2 ⟨t,a,b,c⟩; cases this
    by_cases hc : elseOf P j = (i : Int)
    ·have hnx : (true = true ↔ ∃ t : Nat,k ≤ t ∧ t < j + 1 ∧ elseOf P t = (i : Int)) := ⟨fun _=>⟨j,g1,by omega,hc⟩,fun _=>rfl⟩
     (repeat' (first|apply zS|apply zB|((first|apply zR|apply zC|apply zT|apply zE|apply zK| refine zD 13 (by decide +kernel) (by kernel_rfl) ?_); simp only [go_sem,hlif,hc])|apply And.intro|intro _))
     all_goals first|omega|exact ⟨(j + 1,true),⟨by simp only; omega,by simp only; omega,hnx⟩,by simp only; omega,by (first|(and_intros <;> rfl)|simp)⟩|skip
    ·have hnx : (false = true ↔ ∃ t : Nat,k ≤ t ∧ t < j + 1 ∧ elseOf P t = (i : Int)) := ⟨(fun h=>by cases h),fun ⟨t,a,b,c⟩=>by
      rcases Nat.lt_or_ge t j with q|q
      ·exact absurd c (hz t a q)
      ·rw [show t = j by omega] at c; exact absurd c hc⟩
     (repeat' (first|apply zS|apply zB|((first|apply zR|apply zC|apply zT|apply zE|apply zK| refine zD 13 (by decide +kernel) (by kernel_rfl) ?_); simp only [go_sem,hlif,hc])|apply And.intro|intro _))
     all_goals first|omega|exact ⟨(j + 1,false),⟨by simp only; omega,by simp only; omega,hnx⟩,by simp only; omega,by simp [hc]⟩|skip
  have hgef : ¬ (j : Int) < (i : Int):=by omega
  have hji : i = j:=by omega
  subst hji
  cases fb with
  |false =>
   rw [condS_no (P := P) (k := k) q1 hlt (fun q=>by have := g3.2 (q.el (by rw [hkd]; exact hk4)); cases this)]
   (repeat' (first|apply zS|apply zB|((first|apply zR|apply zC|apply zT|apply zE|apply zK| refine zD 13 (by decide +kernel) (by kernel_rfl) ?_); simp only [go_sem,hgef])|apply And.intro|intro _))
   all_goals first|omega|rfl|skip
  |true =>
   have hfnd := g3.1 rfl
   have hJ : swJ P k i dp kk dp := ⟨by rw [hdl]; omega,k0,fun _=>hfnd⟩
   (repeat' (first|apply zS|apply zB|((first|apply zR|apply zC|apply zT|apply zE|apply zK| refine zD 13 (by decide +kernel) (by kernel_rfl) ?_); simp only [go_sem,hgef])|apply And.intro|intro _))
   all_goals first|omega|rfl|exact ⟨dp,hJ,by (first|(and_intros <;> rfl)|simp)⟩|exact ⟨dp,by rw [← hk4]; exact hJ,by (first|(and_intros <;> rfl)|simp)⟩|skip
 rintro d ⟨hd,k0,hel4⟩
 by_cases h4 : d ≤ 4
 rotate_left
 ·have h4a : (4 : Int) < d:=by omega
  rw [condS_no (P := P) (k := k) q1 hlt (fun q=>by have := q.dp; omega)]
  (repeat' (first|apply zS|apply zB|((first|apply zR|apply zC|apply zT|apply zE|apply zK| refine zD 13 (by decide +kernel) (by kernel_rfl) ?_); simp only [go_sem,h4a])|apply And.intro|intro _))
  all_goals first|omega|rfl|exact hsh _ ‹_›|skip
 have h4a : ¬ (4 : Int) < d:=by omega
 have hyes : knownE P A EE = true → condS P k i := fun q=>⟨by rw [hkd]; exact k0,fun c=>hel4 (hkd.symm.trans c),by omega,by rw [hA,hex]; exact q⟩
 have hnon : ∀ (j : Nat) (hj : j < EE.length),knownT P A EE[j] = false → bodySB P k e = false := fun j hj q=>condS_no (P := P) (k := k) q1 hlt (fun c=>by have := c.kw; rw [hA,hex,knownE_no hj q] at this; cases this)
 (repeat' (first|apply zS|apply zB|((first|apply zR|apply zC|apply zT|apply zE|apply zK| refine zD 13 (by decide +kernel) (by kernel_rfl) ?_); simp only [go_sem,h4a])|apply And.intro|intro _))
 all_goals first|omega|skip
 refine zL (fun j : Nat=>⟨[(0,.sl 4 (P.map encLine)),(1,.v (.int .i64 k)),(2,.v (.int .i64 e)),(7,.sl 1 (A.map encS)),(8,.v (.int .i64 (d))),(9,.v (.int .i64 i)),(12,.v (.int .i64 j))],[]⟩)
  (fun j=>j ≤ EE.length ∧ ∀ t (ht : t < EE.length),t < j → knownT P A EE[t] = true) (fun j=>EE.length - j) 0 ⟨by omega,fun t ht h=>by omega⟩ ?_ ?_
 ·(simp only [go_sem] <;> (first|(and_intros <;> rfl)|simp))
 rintro j ⟨hj,hb⟩
 by_cases hltj : j < EE.length
 rotate_left
 ·have hgej : ¬ (j : Int) < EE.length:=by omega
  have hcc := hyes (knownE_yes fun t ht=>hb t ht (by omega))
  have hnx : ∀ t : Nat,k < t → t < i + 1 → condS P k t := fun t a b=>by
   rcases Nat.lt_or_ge t i with c|c
   ·exact q4 t a c
   ·rw [show t = i by omega]; exact hcc
  (repeat' (first|apply zS|apply zB|((first|apply zR|apply zC|apply zT|apply zE|apply zK| refine zD 13 (by decide +kernel) (by kernel_rfl) ?_); simp only [go_sem,h2,hgej])|apply And.intro|intro _))
  all_goals first|omega|rfl|exact hsh _ ‹_›|exact ⟨(i + 1,d),⟨by simp only; omega,by simp only; omega,by simp only; omega,hnx⟩,by simp only; omega,by (first|(and_intros <;> rfl)|simp)⟩|skip
 have hlij : (j : Int) < EE.length:=by omega
 have h5 := rowAt_map encTok EE j hltj
 have hno := hnon j hltj
 have hnx := fun q=>knownE_nx (P := P) (A := A) hltj q hb
 generalize EE[j] = t at h5 hno hnx
 obtain ⟨tk,tn,ts⟩ := t
 rw [encTok] at h5
 simp only at h5
 by_cases t1 : tk = 1
 ·subst t1
  by_cases hm : ts ∈ A
  ·have hmi : ¬ firstIdx (strIs ts) A < 0:=by have := hm; rw [← firstIdx_mem] at this; omega
   have hkt : knownT P A ⟨1,tn,ts⟩ = true:=by simp [knownT,hm]
   have hq := hnx hkt
   (repeat' (first|apply zS|apply zB|((first|apply zR|apply zC|apply zT|apply zE|apply zK| refine zD 13 (by decide +kernel) (by kernel_rfl) ?_); simp only [go_sem,h2,hlij,h5,hmi])|apply And.intro|intro _))
   all_goals first|omega|rfl|exact hsh _ ‹_›|exact ⟨j + 1,⟨by omega,hq⟩,by omega,by (first|(and_intros <;> rfl)|simp)⟩|skip
  ·have hmi : firstIdx (strIs ts) A < 0:=by have := hm; rw [← firstIdx_mem] at this; omega
   rw [hno (by simp [knownT,hm])]
   (repeat' (first|apply zS|apply zB|((first|apply zR|apply zC|apply zT|apply zE|apply zK| refine zD 13 (by decide +kernel) (by kernel_rfl) ?_); simp only [go_sem,h2,hlij,h5,hmi])|apply And.intro|intro _))
   all_goals first|omega|rfl|exact hsh _ ‹_›|skip
 by_cases t7 : tk = 7
 rotate_left
 ·have hq := hnx (by simp [knownT,t1,t7])
  (repeat' (first|apply zS|apply zB|((first|apply zR|apply zC|apply zT|apply zE|apply zK| refine zD 13 (by decide +kernel) (by kernel_rfl) ?_); simp only [go_sem,h2,hlij,h5,t1,t7])|apply And.intro|intro _))
  all_goals first|omega|rfl|exact hsh _ ‹_›|exact ⟨j + 1,⟨by omega,hq⟩,by omega,by (first|(and_intros <;> rfl)|simp)⟩|skip
 subst t7
 rcases findFn_form P ts with hf|⟨f,hf,hff⟩
 ·rw [hno (by simp [knownT,hf])]
  have h3 := rowAt_map encLine P 0 (by omega)
  rw [encLine] at h3
  (repeat' (first|apply zS|apply zB|((first|apply zR|apply zC|apply zT|apply zE|apply zK| refine zD 13 (by decide +kernel) (by kernel_rfl) ?_); simp only [go_sem,h2,hlij,h5,hf,h3])|apply And.intro|intro _))
  all_goals first|omega|rfl|exact hsh _ ‹_›|skip
 ·have h3 := rowAt_map encLine P f hf
  rw [encLine] at h3
  have hal := argsAt_lt hf
  have hf0 : ¬ (f : Int) < 0:=by omega
  have hkt : knownT P A ⟨7,tn,ts⟩ = decide ((P[f].args.length : Int) = tn):=by simp [knownT,hff,hal]
  have hsl : P[f].args.length ≤ 1048576 := LineP.shA (hL _ (List.getElem_mem hf))
  generalize P[f].args = AA at h3 hkt hsl
  by_cases hc : (AA.length : Int) = tn
  ·have hq := hnx (by rw [hkt]; exact decide_eq_true hc)
   (repeat' (first|apply zS|apply zB|((first|apply zR|apply zC|apply zT|apply zE|apply zK| refine zD 13 (by decide +kernel) (by kernel_rfl) ?_); simp only [go_sem,h2,hlij,h5,hff,hf0,h3,hc])|apply And.intro|intro _))
   all_goals first|omega|rfl|exact hsh _ ‹_›|exact ⟨j + 1,⟨by omega,hq⟩,by omega,by (first|(and_intros <;> rfl)|simp)⟩|skip
  ·rw [hno (by rw [hkt]; exact decide_eq_false hc)]
   (repeat' (first|apply zS|apply zB|((first|apply zR|apply zC|apply zT|apply zE|apply zK| refine zD 13 (by decide +kernel) (by kernel_rfl) ?_); simp only [go_sem,h2,hlij,h5,hff,hf0,h3,hc])|apply And.intro|intro _))
   all_goals first|omega|rfl|exact hsh _ ‹_›|skip
end
end Go.Proofs.Ytjjbcoigaejoaaa

namespace Go.Proofs.Ytjjbcoigaejoaaa
open Go.Vc
attribute [local irreducible] Go.Vc.WP
attribute [local go_sem] cx0_t cx0_c
attribute [local go_sem] decS_enc decTok_enc decLine_enc oneLine_f line_eta oneTok_f aPk decI_enc St.fzS addL behind St.runO St.stepO
def intIs (v : Int) (x : Int) : Bool := decide (x = v)
def kIdxN : Ctr := pur (fun args=>(decI (aR args 0),aI args 1)) (fun x=>[.sl 1 (x.1.map encI),.v (.int .i64 x.2)]) (fun x=>x.1.length ≤ 4398046511104) (fun _ x=>.v (.int .i64 (firstIdx (intIs x.2) x.1))) (fun _ _=>[])
def kHasN : Ctr := pur (fun args=>(decI (aR args 0),aI args 1)) (fun x=>[.sl 1 (x.1.map encI),.v (.int .i64 x.2)]) (fun x=>x.1.length ≤ 4398046511104) (fun _ x=>.v (.bool (decide (x.2 ∈ x.1)))) (fun _ _=>[])
theorem firstIdx_memN {L : List Int} {s : Int} : (0 ≤ firstIdx (intIs s) L) = (s ∈ L) := propext ⟨fun h=>by
 obtain ⟨k,hk,_,h2⟩ := firstIdx_pos (p := intIs s) (L := L) (by omega)
 have : L[k] = s:=by simpa [intIs] using h2
 rw [← this]; exact List.getElem_mem hk,fun h=>by
 rcases Int.lt_or_le (firstIdx (intIs s) L) 0 with hn|hn
 ·have := firstIdx_neg hn s h
  simp [intIs] at this
 ·exact hn⟩
section
noncomputable def cxIdN := mkX [] (COk.nil _)
theorem cxIdN_t : cxIdN.tys = tys := rfl
theorem cxIdN_c : cxIdN.C = [] := rfl
attribute [local go_sem] cxIdN_t cxIdN_c
theorem cIdxN : Cn Try.prog 111 kIdxN := by
 refine Cn.pur Try.func111 (by kernel_rfl) rfl fun d x hx=>?_
 obtain ⟨L,s⟩ := x
 simp only at hx ⊢
 refine Holds.go (c := cxIdN) Try.func111 rfl Try.results111 Try.ntmps111 (by omega) (by simp) rfl ?_
 intro X0 w0
 (repeat' (first|apply zS|apply zB|((first|apply zR|apply zC|apply zT|apply zE|apply zK);simp only [go_sem])|apply And.intro|intro _))
 all_goals first|omega|skip
 refine zL (fun k : Nat=>⟨[(0,.sl 1 (L.map encI)),(1,.v (.int .i64 s)),(7,.v (.int .i64 L.length)),(8,.v (.int .i64 k))],[]⟩) (fun k=>k ≤ L.length ∧ ∀ i (hi : i < L.length),i < k → intIs s L[i] = false) (fun k=>L.length - k) 0 (by simp) ?_ ?_
 ·(simp only [go_sem] <;> (first|(and_intros <;> rfl)|simp))
 intro k ⟨hk,hf⟩
 by_cases hlt : k < L.length
 ·have hli : (k : Int) < L.length:=by omega
  have h1 := rowAt_map encI L k hlt
  by_cases he : s = L[k]
  ·rw [show firstIdx (intIs s) L = k from firstIdx_hit hlt hf (by simp [intIs,← he])]
   rw [encI,← he] at h1
   (repeat' (first|apply zS|apply zB|((first|apply zR|apply zC|apply zT|apply zE|apply zK);simp only [go_sem,hli,h1])|apply And.intro|intro _))
   all_goals first|omega|rfl|skip
  ·have hnx : ∀ i (hi : i < L.length),i < k + 1 → intIs s L[i] = false := fun i hi hik=>by
    rcases Nat.lt_or_ge i k with h|h
    ·exact hf i hi h
    ·have : i = k:=by omega
     subst this
     simp only [intIs,decide_eq_false_iff_not]; exact fun e=>he e.symm
   rw [encI] at h1
   (repeat' (first|apply zS|apply zB|((first|apply zR|apply zC|apply zT|apply zE|apply zK);simp only [go_sem,hli,h1,he])|apply And.intro|intro _))
   all_goals first|omega|exact ⟨k + 1,⟨by omega,hnx⟩,by omega,by (first|(and_intros <;> rfl)|simp)⟩|skip
 ·have hge : ¬ (k : Int) < L.length:=by omega
  rw [show firstIdx (intIs s) L = -1 from firstIdx_none fun i hi=>hf i hi (by omega)]
  (repeat' (first|apply zS|apply zB|((first|apply zR|apply zC|apply zT|apply zE|apply zK);simp only [go_sem,hge])|apply And.intro|intro _))
  all_goals first|omega|rfl|skip
end
section
noncomputable def cxHaN := mkX [(111,kIdxN)] (COk.cons cIdxN (COk.nil _))
theorem cxHaN_t : cxHaN.tys = tys := rfl
theorem cxHaN_c : cxHaN.C = [(111,kIdxN)] := rfl
attribute [local go_sem] cxHaN_t cxHaN_c kIdxN
theorem cHasN : Cn Try.prog 86 kHasN := by
 refine Cn.pur Try.func86 (by kernel_rfl) rfl fun d x hx=>?_
 obtain ⟨L,s⟩ := x
 simp only at hx ⊢
 have hm := firstIdx_memN (L := L) (s := s)
 refine Holds.go (c := cxHaN) Try.func86 rfl Try.results86 Try.ntmps86 (by omega) (by simp) rfl ?_
 intro X0 w0
 (repeat' (first|apply zS|apply zB|((first|apply zR|apply zC|apply zT|apply zE|apply zK);simp only [go_sem,hm])|apply And.intro|intro _))
 all_goals first|omega|skip
end
theorem smLine_shL {x : Line} (h : smLine x) : shLine x := ⟨h.2.1.1,h.2.2.1⟩
theorem allV_In (L : List Int) : allV (L.map encI) := fun row hr c hc=>by
 obtain ⟨x,_,rfl⟩ := List.mem_map.1 hr
 simp only [encI,List.mem_cons,List.not_mem_nil,or_false] at hc
 exact ⟨_,hc⟩
def kFunsZ : Ctr := pur (fun args=>decLine (aR args 0)) (fun P=>[.sl 4 (P.map encLine)]) (fun P=>P.length ≤ 1048576) (fun _ P=>.sl 1 ((funs P P.length).map encI)) (fun _ _=>[])
theorem cFunsZI : Cn Try.prog 80 kFunsZ := Cn.frozen (fun _=>allV_In _) cFunsI
noncomputable def kPrgOk : Ctr := pur (fun args=>decLine (aR args 0)) (fun P=>[.sl 4 (P.map encLine)]) (fun P=>P.length ≤ 1048576 ∧ ∀ y ∈ P,smLine y) (fun _ P=>.v (.bool (progOk P))) (fun _ _=>[])
def elses (P : List Line) (n : Nat) : List Int := (List.range n).map fun i : Nat=>elseOf P i
theorem elses_len (P : List Line) (n : Nat) : (elses P n).length = n:=by simp [elses]
theorem elses_succ (P : List Line) (n : Nat) : elses P (n + 1) = elses P n ++ [elseOf P n]:=by unfold elses; rw [List.range_succ,List.map_append]; rfl
theorem elses_mem {P : List Line} {n : Nat} {x : Int} : x ∈ elses P n ↔ ∃ j : Nat,j < n ∧ elseOf P j = x := by
 unfold elses
 rw [List.mem_map]
 exact ⟨fun ⟨j,a,b⟩=>⟨j,List.mem_range.1 a,b⟩,fun ⟨j,a,b⟩=>⟨j,List.mem_range.2 a,b⟩⟩
section
attribute [local irreducible] shLine smLine
noncomputable def LcxPgI : CL := [(80,kFunsZ),(35,k60),(81,kLnOk),(82,kBlk),(83,kFind),(84,kFnOk),(85,kElse),(86,kHasN)]
noncomputable def cxPgI := mkX LcxPgI (COk.cons cFunsZI (COk.cons c60 (COk.cons cLnOkI (COk.cons cBlkI (COk.cons cFindI (COk.cons cFnOkI (COk.cons cElseI (COk.cons cHasN (COk.nil _)))))))))
theorem cxPgI_t : cxPgI.tys = tys := rfl
theorem cxPgI_c : cxPgI.C = LcxPgI := rfl
attribute [local go_sem] cxPgI_t cxPgI_c LcxPgI kFunsZ k60 kLnOk kBlk kFind kFnOk kElse kHasN
set_option maxHeartbeats 32000000
theorem cPrgOkI : Cn Try.prog 51 kPrgOk := by
 refine Cn.pur Try.func51 (by kernel_rfl) rfl fun d x hx=>?_
 rename List Line=>P
 obtain ⟨hx,hsm⟩ := hx
 have hsh : ∀ y ∈ P,shLine y := fun y hy=>smLine_shL (hsm y hy)
 refine Holds.go (c := cxPgI) Try.func51 rfl Try.results51 Try.ntmps51 (by omega) (by simp) rfl ?_
 intro X0 w0
 have lk0 : lk 0 tys = none := rfl
 generalize hF : funs P P.length = F
 by_cases h60 : P.length ≤ 60
 rotate_left
 ·have h60' : (60 : Int) < P.length:=by omega
  rw [progOk_no fun q=>h60 q.few]
  (repeat' (first|apply zS|apply zB|((first|apply zR|apply zC|apply zT|apply zE|apply zK);simp only [go_sem,hF,h60'])|apply And.intro|intro _))
  all_goals first|omega|rfl|skip
 have h60' : ¬ (60 : Int) < P.length:=by omega
 by_cases hf1 : 1 ≤ F.length
 rotate_left
 ·have hf1' : ¬ (1 : Int) ≤ F.length:=by omega
  rw [progOk_no fun q=>hf1 (by have := q.funs.1; rw [hF] at this; exact this)]
  (repeat' (first|apply zS|apply zB|((first|apply zR|apply zC|apply zT|apply zE|apply zK);simp only [go_sem,hF,h60',hf1'])|apply And.intro|intro _))
  all_goals first|omega|rfl|skip
 have hf1' : (1 : Int) ≤ F.length:=by omega
 by_cases hf6 : F.length ≤ 6
 rotate_left
 ·have hf6' : ¬ (F.length : Int) ≤ 6:=by omega
  rw [progOk_no fun q=>hf6 (by have := q.funs.2; rw [hF] at this; exact this)]
  (repeat' (first|apply zS|apply zB|((first|apply zR|apply zC|apply zT|apply zE|apply zK);simp only [go_sem,hF,h60',hf1',hf6'])|apply And.intro|intro _))
  all_goals first|omega|rfl|skip
 have hf6' : (F.length : Int) ≤ 6:=by omega
 have hFl : F.length ≤ P.length:=by rw [← hF]; exact funs_len P P.length
 (repeat' (first|apply zS|apply zB|((first|apply zR|apply zC|apply zT|apply zE|apply zK);simp only [go_sem,hF,h60',hf1',hf6'])|apply And.intro|intro _))
 all_goals first|omega|skip
 refine zL (fun i : Nat=>⟨[(0,.sl 4 (P.map encLine)),(3,.sl 1 (F.map encI)),(25,.sl 4 (P.map encLine)),(26,.v (.int .i64 P.length)),(27,.v (.int .i64 i))],[]⟩)
  (fun i=>i ≤ P.length ∧ ∀ (j : Nat) (hj : j < P.length),j < i → LineP P[j]) (fun i=>P.length - i) 0 ⟨by omega,fun j hj h=>by omega⟩ ?_ ?_
 ·(simp only [go_sem] <;> (first|(and_intros <;> rfl)|simp))
 rintro i ⟨hi,hb⟩
 by_cases hlt : i < P.length
 ·have hli : (i : Int) < P.length:=by omega
  have h2 := rowAt_map encLine P i hlt
  have hsi := hsm _ (List.getElem_mem hlt)
  by_cases hp : LineP P[i]
  ·have hnx : ∀ (j : Nat) (hj : j < P.length),j < i + 1 → LineP P[j] := fun j hj hji=>by
    rcases Nat.lt_or_ge j i with c|c
    ·exact hb j hj c
    ·have : j = i:=by omega
     subst this; exact hp
   generalize P[i] = y at h2 hsi hp
   obtain ⟨yk,yn,yA,yE⟩ := y
   rw [encLine] at h2
   simp only at h2
   (repeat' (first|apply zS|apply zB|((first|apply zR|apply zC|apply zT|apply zE|apply zK);simp only [go_sem,hli,h2,hp])|apply And.intro|intro _))
   all_goals first|omega|exact hsi|exact ⟨i + 1,⟨by omega,hnx⟩,by omega,by (first|(and_intros <;> rfl)|simp)⟩|skip
  ·rw [progOk_no fun q=>hp (q.lines _ (List.getElem_mem hlt))]
   generalize P[i] = y at h2 hsi hp
   obtain ⟨yk,yn,yA,yE⟩ := y
   rw [encLine] at h2
   simp only at h2
   (repeat' (first|apply zS|apply zB|((first|apply zR|apply zC|apply zT|apply zE|apply zK);simp only [go_sem,hli,h2,hp])|apply And.intro|intro _))
   all_goals first|omega|exact hsi|rfl|skip
 have hge : ¬ (i : Int) < P.length:=by omega
 have hL : ∀ y ∈ P,LineP y := fun y hy=>by obtain ⟨j,hj,rfl⟩ := List.mem_iff_getElem.1 hy; exact hb j hj (by omega)
 have hP0 : 0 < P.length:=by omega
 have r0 := rowAt_map encLine P 0 hP0
 rw [encLine] at r0
 have kd0 := kd_lt hP0
 have nm0 := nameAt_lt hP0
 have ar0 := argsAt_lt hP0
 have hA0 := (hsh _ (List.getElem_mem hP0))
 have hA0 : P[0].args.length ≤ 1048576:=by unfold shLine at hA0; exact hA0.1
 have hmb : bts [109,97,105,110] = ⟨#[109,97,105,110]⟩ := rfl
 generalize P[0].kind = kk at r0 kd0
 generalize P[0].name = nn at r0 nm0
 generalize P[0].args = AA at r0 ar0 hA0
 generalize P[0].expr = EE at r0
 by_cases m1 : kk = 0
 rotate_left
 ·rw [progOk_no fun q=>m1 (by rw [← kd0]; exact q.main.1)]
  (repeat' (first|apply zS|apply zB|((first|apply zR|apply zC|apply zT|apply zE|apply zK);simp only [go_sem,hge,r0,m1])|apply And.intro|intro _))
  all_goals first|omega|rfl|skip
 by_cases m2 : nn = ⟨#[109,97,105,110]⟩
 rotate_left
 ·rw [progOk_no fun q=>m2 (by rw [← nm0]; exact q.main.2.1)]
  (repeat' (first|apply zS|apply zB|((first|apply zR|apply zC|apply zT|apply zE|apply zK);simp only [go_sem,hge,r0,m1,m2])|apply And.intro|intro _))
  all_goals first|omega|rfl|skip
 by_cases m3 : AA = []
 rotate_left
 ·have m3' : (0 : Int) < AA.length:=by have := List.length_pos_iff.2 m3; omega
  rw [progOk_no fun q=>m3 (by rw [← ar0]; exact q.main.2.2)]
  (repeat' (first|apply zS|apply zB|((first|apply zR|apply zC|apply zT|apply zE|apply zK);simp only [go_sem,hge,r0,m1,m2,m3'])|apply And.intro|intro _))
  all_goals first|omega|rfl|skip
 have m3' : ¬ (0 : Int) < AA.length:=by rw [m3]; simp
 have hmain : kd P 0 = 0 ∧ nameAt P 0 = bts [109,97,105,110] ∧ argsAt P 0 = [] := ⟨kd0.trans m1,nm0.trans m2,ar0.trans m3⟩
 (repeat' (first|apply zS|apply zB|((first|apply zR|apply zC|apply zT|apply zE|apply zK);simp only [go_sem,hge,r0,m1,m2,m3'])|apply And.intro|intro _))
 all_goals first|omega|skip
 clear r0 kd0 nm0 ar0 hA0
 refine zL (fun s : Nat × Nat=>⟨[(0,.sl 4 (P.map encLine)),(6,.v (.int .i64 s.2)),(55,.sl 1 (F.map encI)),(56,.v (.int .i64 F.length)),(57,.v (.int .i64 s.1))],[]⟩)
  (fun s=>s.1 ≤ F.length ∧ FnI P s.1 s.2) (fun s=>F.length - s.1) (0,0) ⟨by simp only; omega,FnI.zero P⟩ ?_ ?_
 ·(simp only [go_sem] <;> (first|(and_intros <;> rfl)|simp))
 rintro ⟨ix,nx⟩ ⟨g1,g2⟩
 simp only at g1 g2 ⊢
 by_cases hlx : ix < F.length
 ·have hli : (ix : Int) < F.length:=by omega
  have hixF : ix < (funs P P.length).length:=by rw [hF]; exact hlx
  obtain ⟨k,k1,k2,k3⟩ := funs_get hixF
  have h3 := rowAt_map encI F ix hlx
  have hFk : F[ix] = (k : Int):=by rw [← k3]; simp only [hF]
  rw [encI,hFk] at h3
  have h2 := rowAt_map encLine P k k1
  rw [encLine] at h2
  have hnm := nameAt_lt k1
  generalize hnn2 : P[k].name = n2 at h2 hnm
  by_cases c1 : k = nx
  rotate_left
  ·have c1' : ¬ (k : Int) = (nx : Int):=by omega
   rw [progOk_no fun q=>c1 (g2.head hixF k3 q.tiles)]
   (repeat' (first|apply zS|apply zB|((first|refine WP.regionO (id := 17) ?_); simp only [go_sem,hli,h3,h2,c1'])|((first|apply zR|apply zC|apply zT|apply zE|apply zK);simp only [go_sem,hli,h3,h2,c1'])|apply And.intro|intro _))
   all_goals first|omega|rfl|exact hL|exact hsh|exact hsm|skip
  subst c1
  by_cases c2 : findFn P n2 = (k : Int)
  rotate_left
  ·rw [progOk_no fun q=>c2 (by rw [← hnm]; exact q.first k k1 k2)]
   have b1 : ((k : Int) != (k : Int)) = false:=by simp
   have b2 : (findFn P n2 != (k : Int)) = true:=by simp [c2]
   (repeat' (first|apply zS|apply zB|((first|refine WP.regionO (id := 17) ?_); simp only [go_sem,hli,h3,h2,c2,b1,b2])|((first|apply zR|apply zC|apply zT|apply zE|apply zK);simp only [go_sem,hli,h3,h2,c2,b1,b2])|apply And.intro|intro _))
   all_goals first|omega|rfl|exact hL|exact hsh|exact hsm|skip
  by_cases c3 : endOf P k < 0
  ·rw [progOk_no fun q=>by obtain ⟨e,a,_⟩ := g2.ends hixF k3 q.tiles; omega]
   have b1 : ((k : Int) != (k : Int)) = false:=by simp
   have b2 : ((k : Int) == (k : Int)) = true:=by simp
   (repeat' (first|apply zS|apply zB|((first|refine WP.regionO (id := 17) ?_); simp only [go_sem,hli,h3,h2,c2,c3,b1,b2])|((first|apply zR|apply zC|apply zT|apply zE|apply zK);simp only [go_sem,hli,h3,h2,c2,c3,b1,b2])|apply And.intro|intro _))
   all_goals first|omega|rfl|exact hL|exact hsh|exact hsm|skip
  obtain ⟨e,e1,e2,e3⟩ := endOf_nn (P := P) (k := k) (by omega)
  have c3' : ¬ (e : Int) < 0:=by omega
  have hel := e2.lt
  have tn1 : (k : Int).toNat = k := Int.toNat_natCast k
  have tn2 : (e : Int).toNat = e := Int.toNat_natCast e
  have hpre : ∃ k' : Nat,(k : Int) = k' ∧ ∃ e' : Nat,(e : Int) = e' ∧ kd P k' = 0 ∧ IsEnd P k' e' := ⟨k,rfl,e,rfl,k2,e2⟩
  cases c4 : bodyIB P k e with
  |false =>
   rw [progOk_no fun q=>by
    obtain ⟨e',a,b,c⟩ := g2.ends hixF k3 q.tiles
    rw [e2.inj b] at c4
    rw [bodyIB_yes c] at c4; cases c4]
   (repeat' (first|apply zS|apply zB|((first|apply zR|apply zC|apply zT|apply zE|apply zK);simp only [go_sem,hli,h3,h2,c2,e1,c3',tn1,tn2,c4])|apply And.intro|intro _))
   all_goals first|omega|rfl|exact hL|exact hL _ ‹_›|exact hsh|exact hsm|exact hpre|skip
  |true =>
   have hnx := g2.next hixF k3 e2 (bodyIB_of c4) (by rw [hnm]; exact c2)
   (repeat' (first|apply zS|apply zB|((first|apply zR|apply zC|apply zT|apply zE|apply zK);simp only [go_sem,hli,h3,h2,c2,e1,c3',tn1,tn2,c4])|apply And.intro|intro _))
   all_goals first|omega|rfl|exact hL|exact hL _ ‹_›|exact hsh|exact hsm|exact hpre|exact ⟨(ix + 1,e + 1),⟨by simp only; omega,hnx⟩,by simp only; omega,by (first|(and_intros <;> rfl)|simp)⟩|skip
 have hgx : ¬ (ix : Int) < F.length:=by omega
 have hfin := FnI.fin (P := P) (next := nx) (by rw [hF,show F.length = ix by omega]; exact g2)
 (repeat' (first|apply zS|apply zB|((first|apply zR|apply zC|apply zT|apply zE|apply zK);simp only [go_sem,hgx])|apply And.intro|intro _))
 all_goals first|omega|skip
 refine zL (fun i : Nat=>⟨[(0,.sl 4 (P.map encLine)),(6,.v (.int .i64 nx)),(10,.own 92),(94,.v (.int .i64 P.length)),(95,.v (.int .i64 i))],[(92,.sl 3 1 ((elses P i).map encI))]⟩)
  (fun i=>i ≤ P.length) (fun i=>P.length - i) 0 (by omega) ?_ ?_
 ·(simp only [go_sem] <;> (first|(and_intros <;> rfl)|simp))
 intro i hi2
 have hel2 := elses_len P i
 by_cases hlt2 : i < P.length
 ·have hli : (i : Int) < P.length:=by omega
  have hes := elses_succ P i
  (repeat' (first|apply zS|apply zB|((first|apply zR|apply zC|apply zT|apply zE|apply zK);simp only [go_sem,hli])|apply And.intro|intro _))
  all_goals first|omega|exact ⟨i + 1,by omega,by omega,by rw [hes,List.map_append]; (first|(and_intros <;> rfl)|simp)⟩|skip
 have hge2 : ¬ (i : Int) < P.length:=by omega
 obtain rfl : i = P.length:=by omega
 generalize hEL : elses P P.length = EL at hel2
 (repeat' (first|apply zS|apply zB|((first|apply zR|apply zC|apply zT|apply zE|apply zK);simp only [go_sem,hge2])|apply And.intro|intro _))
 all_goals first|omega|skip
 refine zL (fun i : Nat=>⟨[(0,.sl 4 (P.map encLine)),(6,.v (.int .i64 nx)),(10,.own 92),(105,.sl 4 (P.map encLine)),(106,.v (.int .i64 P.length)),(107,.v (.int .i64 i))],[(92,.sl 3 1 (EL.map encI))]⟩)
  (fun i=>i ≤ P.length ∧ ∀ j : Nat,j < i → kd P j = 4 → ∃ t : Nat,t < P.length ∧ elseOf P t = (j : Int)) (fun i=>P.length - i) 0 ⟨by omega,fun j h=>by omega⟩ ?_ ?_
 ·(simp only [go_sem] <;> (first|(and_intros <;> rfl)|simp))
 rintro i ⟨hi3,he⟩
 by_cases hlt3 : i < P.length
 ·have hli : (i : Int) < P.length:=by omega
  have h2 := rowAt_map encLine P i hlt3
  rw [encLine] at h2
  have hkd := kd_lt hlt3
  have hmem := elses_mem (P := P) (n := P.length) (x := (i : Int))
  rw [hEL] at hmem
  generalize P[i].kind = kk at h2 hkd
  by_cases h4 : kk = 4
  ·by_cases hm : (i : Int) ∈ EL
   ·have hmi : ((i : Int) ∈ EL) = True := eq_true hm
    have hnx : ∀ j : Nat,j < i + 1 → kd P j = 4 → ∃ t : Nat,t < P.length ∧ elseOf P t = (j : Int) := fun j a b=>by
     rcases Nat.lt_or_ge j i with c|c
     ·exact he j c b
     ·rw [show j = i by omega]; exact hmem.1 hm
    (repeat' (first|apply zS|apply zB|((first|apply zR|apply zC|apply zT|apply zE|apply zK);simp only [go_sem,hli,h2,h4,hmi])|apply And.intro|intro _))
    all_goals first|omega|exact ⟨i + 1,⟨by omega,hnx⟩,by omega,by (first|(and_intros <;> rfl)|simp)⟩|skip
   ·have hmi : ((i : Int) ∈ EL) = False := eq_false hm
    rw [progOk_no fun q=>hm (hmem.2 (q.elses i hlt3 (hkd.trans h4)))]
    (repeat' (first|apply zS|apply zB|((first|apply zR|apply zC|apply zT|apply zE|apply zK);simp only [go_sem,hli,h2,h4,hmi])|apply And.intro|intro _))
    all_goals first|omega|rfl|skip
  ·have hnx : ∀ j : Nat,j < i + 1 → kd P j = 4 → ∃ t : Nat,t < P.length ∧ elseOf P t = (j : Int) := fun j a b=>by
    rcases Nat.lt_or_ge j i with c|c
    ·exact he j c b
    ·rw [show j = i by omega] at b; exact absurd (hkd.symm.trans b) h4
   (repeat' (first|apply zS|apply zB|((first|apply zR|apply zC|apply zT|apply zE|apply zK);simp only [go_sem,hli,h2,h4])|apply And.intro|intro _))
   all_goals first|omega|exact ⟨i + 1,⟨by omega,hnx⟩,by omega,by (first|(and_intros <;> rfl)|simp)⟩|skip
 have hge3 : ¬ (i : Int) < P.length:=by omega
 by_cases hend : nx = P.length
 ·have hend' : (nx : Int) = P.length:=by omega
  have hok : progOk P = true := progOk_iff'.2 ⟨h60,by rw [hF]; exact ⟨hf1,hf6⟩,hL,hmain,fun t a b=>g2.first t (by omega) b,hfin.2 hend,fun t a b=>he t (by omega) b⟩
  rw [hok]
  (repeat' (first|apply zS|apply zB|((first|apply zR|apply zC|apply zT|apply zE|apply zK);simp only [go_sem,hge3,hend'])|apply And.intro|intro _))
  all_goals first|omega|rfl|(simp; done)|skip
 ·have hend' : ¬ (nx : Int) = P.length:=by omega
  rw [progOk_no fun q=>hend (hfin.1 q.tiles)]
  (repeat' (first|apply zS|apply zB|((first|apply zR|apply zC|apply zT|apply zE|apply zK);simp only [go_sem,hge3,hend'])|apply And.intro|intro _))
  all_goals first|omega|rfl|(simp [hend']; done)|skip
end
end Go.Proofs.Ytjjbcoigaejoaaa

namespace Go.Proofs.Ytjjbcoigaejoaaa
open Go.Vc
attribute [local irreducible] Go.Vc.WP
attribute [local go_sem] cx0_t cx0_c
attribute [local go_sem] decS_enc decTok_enc decLine_enc oneLine_f line_eta oneTok_f aPk decI_enc St.fzS addL behind St.runO St.stepO
theorem cFunsZS : Cn Try.prog 61 kFunsZ := Cn.frozen (fun _=>allV_In _) cFunsS
theorem TilesS.step {P : List Line} {k : Nat} (h : Tiles (bodyS P) P k) (hk : k < P.length) : kd P k = 0 ∧ ∃ e : Nat,endOf P k = (e : Int) ∧ IsEnd P k e ∧ bodyS P k e ∧ Tiles (bodyS P) P (e + 1) := by
 cases h with
 |done=>omega
 |step hk0 he hb hr=>exact ⟨hk0,_,endOf_of (opens_of (.inl hk0)) he,he,hb,hr⟩
section
attribute [local irreducible] shLine smLine
noncomputable def LcxPgS : CL := [(61,kFunsZ),(62,kLnOk),(64,kBlk),(63,kFind),(65,kBody)]
noncomputable def cxPgS := mkX LcxPgS (COk.cons cFunsZS (COk.cons cLnOkS (COk.cons cBlkS (COk.cons cFindS (COk.cons cBody (COk.nil _))))))
theorem cxPgS_t : cxPgS.tys = tys := rfl
theorem cxPgS_c : cxPgS.C = LcxPgS := rfl
attribute [local go_sem] cxPgS_t cxPgS_c LcxPgS kFunsZ kLnOk kBlk kFind kBody
set_option maxHeartbeats 32000000
theorem cPrgOkS : Cn Try.prog 32 kPrgOk := by
 refine Cn.pur Try.func32 (by kernel_rfl) rfl fun d x hx=>?_
 rename List Line=>P
 obtain ⟨hx,hsm⟩ := hx
 have hsh : ∀ y ∈ P,shLine y := fun y hy=>smLine_shL (hsm y hy)
 refine Holds.go (c := cxPgS) Try.func32 rfl Try.results32 Try.ntmps32 (by omega) (by simp) rfl ?_
 intro X0 w0
 have lk0 : lk 0 tys = none := rfl
 generalize hF : funs P P.length = F
 have hFl : F.length ≤ P.length:=by rw [← hF]; exact funs_len P P.length
 have hmb : bts [109,97,105,110] = ⟨#[109,97,105,110]⟩ := rfl
 by_cases hP0 : 0 < P.length
 rotate_left
 ·have hz : (P.length : Int) = 0:=by omega
  have hr0 : Go.Vc.rowAt (P.map encLine) 0 = []:=by unfold Go.Vc.rowAt; rw [List.getElem?_eq_none (by rw [List.length_map]; omega)]; rfl
  rw [progOk_noS fun q=>by have := List.length_pos_iff.2 q.some; omega]
  (repeat' (first|apply zS|apply zB|((first|refine WP.regionO (id := 1) ?_); simp only [go_sem,hz,hr0,hF])|((first|apply zR|apply zC|apply zT|apply zE|apply zK);simp only [go_sem,hz,hr0,hF])|apply And.intro|intro _))
  all_goals first|omega|rfl|skip
 have hz : ¬ (P.length : Int) = 0:=by omega
 have r0 := rowAt_map encLine P 0 hP0
 rw [encLine] at r0
 have kd0 := kd_lt hP0
 have nm0 := nameAt_lt hP0
 have ar0 := argsAt_lt hP0
 have hA0 := (hsh _ (List.getElem_mem hP0))
 have hA0 : P[0].args.length ≤ 1048576:=by unfold shLine at hA0; exact hA0.1
 generalize P[0].kind = kk at r0 kd0
 generalize P[0].name = nn at r0 nm0
 generalize P[0].args = AA at r0 ar0 hA0
 generalize P[0].expr = EE at r0
 by_cases h60 : P.length ≤ 60
 rotate_left
 ·have h60' : (60 : Int) < P.length:=by omega
  rw [progOk_noS fun q=>h60 q.few]
  (repeat' (first|apply zS|apply zB|((first|apply zR|apply zC|apply zT|apply zE|apply zK);simp only [go_sem,hz,hF,h60',r0])|apply And.intro|intro _))
  all_goals first|omega|rfl|skip
 have h60' : ¬ (60 : Int) < P.length:=by omega
 by_cases m1 : kk = 0
 rotate_left
 ·rw [progOk_noS fun q=>m1 (by rw [← kd0]; exact q.main.1)]
  (repeat' (first|apply zS|apply zB|((first|apply zR|apply zC|apply zT|apply zE|apply zK);simp only [go_sem,hz,hF,h60',r0,m1])|apply And.intro|intro _))
  all_goals first|omega|rfl|skip
 by_cases m2 : nn = ⟨#[109,97,105,110]⟩
 rotate_left
 ·rw [progOk_noS fun q=>m2 (by rw [← nm0]; exact q.main.2.1)]
  (repeat' (first|apply zS|apply zB|((first|apply zR|apply zC|apply zT|apply zE|apply zK);simp only [go_sem,hz,hF,h60',r0,m1,m2])|apply And.intro|intro _))
  all_goals first|omega|rfl|skip
 by_cases m3 : AA = []
 rotate_left
 ·have m3' : ¬ (AA.length : Int) = 0:=by have := List.length_pos_iff.2 m3; omega
  rw [progOk_noS fun q=>m3 (by rw [← ar0]; exact q.main.2.2)]
  (repeat' (first|apply zS|apply zB|((first|apply zR|apply zC|apply zT|apply zE|apply zK);simp only [go_sem,hz,hF,h60',r0,m1,m2,m3'])|apply And.intro|intro _))
  all_goals first|omega|rfl|skip
 have m3' : (AA.length : Int) = 0:=by rw [m3]; rfl
 have hmain : kd P 0 = 0 ∧ nameAt P 0 = bts [109,97,105,110] ∧ argsAt P 0 = [] := ⟨kd0.trans m1,nm0.trans m2,ar0.trans m3⟩
 by_cases hf6 : F.length ≤ 6
 rotate_left
 ·have hf6' : (6 : Int) < F.length:=by omega
  rw [progOk_noS fun q=>hf6 (by have := q.funs; rw [hF] at this; exact this)]
  (repeat' (first|apply zS|apply zB|((first|apply zR|apply zC|apply zT|apply zE|apply zK);simp only [go_sem,hz,hF,h60',r0,m1,m2,m3',hf6'])|apply And.intro|intro _))
  all_goals first|omega|rfl|skip
 have hf6' : ¬ (6 : Int) < F.length:=by omega
 (repeat' (first|apply zS|apply zB|((first|apply zR|apply zC|apply zT|apply zE|apply zK);simp only [go_sem,hz,hF,h60',r0,m1,m2,m3',hf6'])|apply And.intro|intro _))
 all_goals first|omega|skip
 clear r0 kd0 nm0 ar0 hA0
 refine zL (fun i : Nat=>⟨[(0,.sl 4 (P.map encLine)),(3,.v (.int .i64 i))],[]⟩)
  (fun i=>i ≤ P.length ∧ (∀ (j : Nat) (hj : j < P.length),j < i → LineP P[j]) ∧ ∀ j : Nat,j < i → kd P j = 0 → findFn P (nameAt P j) = (j : Int)) (fun i=>P.length - i) 0 ⟨by omega,fun j hj h=>by omega,fun j h=>by omega⟩ ?_ ?_
 ·(simp only [go_sem] <;> (first|(and_intros <;> rfl)|simp))
 rintro i ⟨hi,hb,hfi⟩
 by_cases hlt : i < P.length
 ·have hli : (i : Int) < P.length:=by omega
  have h2 := rowAt_map encLine P i hlt
  have hsi := hsm _ (List.getElem_mem hlt)
  have hkd := kd_lt hlt
  have hnm := nameAt_lt hlt
  by_cases hp : LineP P[i]
  ·have hnl : ∀ (j : Nat) (hj : j < P.length),j < i + 1 → LineP P[j] := fun j hj hji=>by
    rcases Nat.lt_or_ge j i with c|c
    ·exact hb j hj c
    ·have : j = i:=by omega
     subst this; exact hp
   generalize P[i] = y at h2 hsi hp hkd hnm
   obtain ⟨yk,yn,yA,yE⟩ := y
   rw [encLine] at h2
   simp only at h2 hkd hnm
   by_cases k0 : yk = 0
   ·by_cases kf : findFn P yn = (i : Int)
    ·have hnf : ∀ j : Nat,j < i + 1 → kd P j = 0 → findFn P (nameAt P j) = (j : Int) := fun j a b=>by
      rcases Nat.lt_or_ge j i with c|c
      ·exact hfi j c b
      ·rw [show j = i by omega,hnm]; exact kf
     subst k0
     (repeat' (first|apply zS|apply zB|((first|apply zR|apply zC|apply zT|apply zE|apply zK);simp only [go_sem,hli,h2,hp,kf])|apply And.intro|intro _))
     all_goals first|omega|exact hsi|exact ⟨i + 1,⟨by omega,hnl,hnf⟩,by omega,by (first|(and_intros <;> rfl)|simp)⟩|skip
    ·rw [progOk_noS fun q=>kf (by rw [← hnm]; exact q.first i hlt (hkd.trans k0))]
     subst k0
     (repeat' (first|apply zS|apply zB|((first|apply zR|apply zC|apply zT|apply zE|apply zK);simp only [go_sem,hli,h2,hp,kf])|apply And.intro|intro _))
     all_goals first|omega|exact hsi|rfl|skip
   ·have hnf : ∀ j : Nat,j < i + 1 → kd P j = 0 → findFn P (nameAt P j) = (j : Int) := fun j a b=>by
     rcases Nat.lt_or_ge j i with c|c
     ·exact hfi j c b
     ·rw [show j = i by omega] at b; exact absurd (hkd.symm.trans b) k0
    (repeat' (first|apply zS|apply zB|((first|apply zR|apply zC|apply zT|apply zE|apply zK);simp only [go_sem,hli,h2,hp,k0])|apply And.intro|intro _))
    all_goals first|omega|exact hsi|exact ⟨i + 1,⟨by omega,hnl,hnf⟩,by omega,by (first|(and_intros <;> rfl)|simp)⟩|skip
  ·rw [progOk_noS fun q=>hp (q.lines _ (List.getElem_mem hlt))]
   generalize P[i] = y at h2 hsi hp hkd hnm
   obtain ⟨yk,yn,yA,yE⟩ := y
   rw [encLine] at h2
   simp only at h2
   (repeat' (first|apply zS|apply zB|((first|apply zR|apply zC|apply zT|apply zE|apply zK);simp only [go_sem,hli,h2,hp])|apply And.intro|intro _))
   all_goals first|omega|exact hsi|rfl|skip
 have hge : ¬ (i : Int) < P.length:=by omega
 have hL : ∀ y ∈ P,LineP y := fun y hy=>by obtain ⟨j,hj,rfl⟩ := List.mem_iff_getElem.1 hy; exact hb j hj (by omega)
 have hfirst : ∀ j : Nat,j < P.length → kd P j = 0 → findFn P (nameAt P j) = (j : Int) := fun j a b=>hfi j (by omega) b
 (repeat' (first|apply zS|apply zB|((first|apply zR|apply zC|apply zT|apply zE|apply zK);simp only [go_sem,hge])|apply And.intro|intro _))
 all_goals first|omega|skip
 refine zL (fun k : Nat=>⟨[(0,.sl 4 (P.map encLine)),(4,.v (.int .i64 k))],[]⟩)
  (fun k=>k ≤ P.length ∧ (Tiles (bodyS P) P 0 ↔ Tiles (bodyS P) P k)) (fun k=>P.length - k) 0 ⟨by omega,Iff.rfl⟩ ?_ ?_
 ·(simp only [go_sem] <;> (first|(and_intros <;> rfl)|simp))
 rintro k ⟨hk,hT⟩
 by_cases hlk : k < P.length
 ·have hli : (k : Int) < P.length:=by omega
  have h2 := rowAt_map encLine P k hlk
  rw [encLine] at h2
  have hkd := kd_lt hlk
  generalize P[k].kind = kk at h2 hkd
  by_cases c1 : kk = 0
  rotate_left
  ·rw [progOk_noS fun q=>c1 (by rw [← hkd]; exact (TilesS.step (hT.1 q.tiles) hlk).1)]
   have b1 : (kk != 0) = true:=by simp [c1]
   (repeat' (first|apply zS|apply zB|((first|refine WP.regionO (id := 11) ?_); simp only [go_sem,hli,h2,c1,b1])|((first|apply zR|apply zC|apply zT|apply zE|apply zK);simp only [go_sem,hli,h2,c1,b1])|apply And.intro|intro _))
   all_goals first|omega|rfl|exact hL|exact hL _ ‹_›|exact hsh|skip
  have hk0 : kd P k = 0 := hkd.trans c1
  by_cases c3 : endOf P k < 0
  ·rw [progOk_noS fun q=>by obtain ⟨_,e,a,_⟩ := TilesS.step (hT.1 q.tiles) hlk; omega]
   have b1 : ((0 : Int) != 0) = false:=by decide
   (repeat' (first|apply zS|apply zB|((first|refine WP.regionO (id := 11) ?_); simp only [go_sem,hli,h2,c1,c3,b1])|((first|apply zR|apply zC|apply zT|apply zE|apply zK);simp only [go_sem,hli,h2,c1,c3,b1])|apply And.intro|intro _))
   all_goals first|omega|rfl|exact hL|exact hL _ ‹_›|exact hsh|skip
  obtain ⟨e,e1,e2,e3⟩ := endOf_nn (P := P) (k := k) (by omega)
  have c3' : ¬ (e : Int) < 0:=by omega
  have hel := e2.lt
  have tn1 : (k : Int).toNat = k := Int.toNat_natCast k
  have tn2 : (e : Int).toNat = e := Int.toNat_natCast e
  have hpre : ∃ k' : Nat,(k : Int) = k' ∧ ∃ e' : Nat,(e : Int) = e' ∧ kd P k' = 0 ∧ IsEnd P k' e' := ⟨k,rfl,e,rfl,hk0,e2⟩
  cases c4 : bodySB P k e with
  |false =>
   rw [progOk_noS fun q=>by
    obtain ⟨_,e',a,b,c,_⟩ := TilesS.step (hT.1 q.tiles) hlk
    rw [e2.inj b] at c4
    rw [bodySB_yes c] at c4; cases c4]
   (repeat' (first|apply zS|apply zB|((first|apply zR|apply zC|apply zT|apply zE|apply zK);simp only [go_sem,hli,h2,c1,e1,c3',tn1,tn2,c4])|apply And.intro|intro _))
   all_goals first|omega|rfl|exact hL|exact hL _ ‹_›|exact hsh|exact hpre|skip
  |true =>
   have hnx : Tiles (bodyS P) P 0 ↔ Tiles (bodyS P) P (e + 1) := hT.trans ⟨fun q=>by
    obtain ⟨_,e',a,b,c,d⟩ := TilesS.step q hlk
    rw [e2.inj b]; exact d,fun q=>.step hk0 e2 (bodySB_of c4) q⟩
   (repeat' (first|apply zS|apply zB|((first|apply zR|apply zC|apply zT|apply zE|apply zK);simp only [go_sem,hli,h2,c1,e1,c3',tn1,tn2,c4])|apply And.intro|intro _))
   all_goals first|omega|rfl|exact hL|exact hL _ ‹_›|exact hsh|exact hpre|exact ⟨e + 1,⟨by omega,hnx⟩,by omega,by (first|(and_intros <;> rfl)|simp)⟩|skip
 have hgk : ¬ (k : Int) < P.length:=by omega
 have hok : progOk P = true := progOk_iff.2 ⟨(fun q=>by rw [q] at hP0; cases hP0),h60,hmain,by rw [hF]; exact hf6,hL,hfirst,hT.2 (by rw [show k = P.length by omega]; exact .done)⟩
 rw [hok]
 (repeat' (first|apply zS|apply zB|((first|apply zR|apply zC|apply zT|apply zE|apply zK);simp only [go_sem,hgk])|apply And.intro|intro _))
 all_goals first|omega|rfl|skip
end
end Go.Proofs.Ytjjbcoigaejoaaa

namespace Go.Proofs.Ytjjbcoigaejoaaa
open Go.Vc
attribute [local irreducible] Go.Vc.WP
attribute [local go_sem] cx0_t cx0_c
def fl2d88b9c5cb : List Go.Vc.Fp := [⟨[0],[],[],[],[],[]⟩,⟨[0],[],[],[],[],[]⟩,⟨[110],[1],[],[],[],[]⟩,⟨[111],[1,2],[],[],[],[]⟩,⟨[112],[1,2,3],[],[],[],[]⟩,⟨[0],[],[],[],[],[]⟩,⟨[114],[5],[],[],[],[]⟩,⟨[115],[5,6],[],[],[],[]⟩,⟨[116],[5,6,7],[],[],[],[]⟩,⟨[117],[5,6,7,8],[],[],[],[]⟩,⟨[118],[5,6,7,8,9],[],[],[],[]⟩,⟨[113,119],[1,2,3,4,5,6,7,8,9,10],[],[],[],[]⟩,⟨[],[0,1,2,3,4,5,6,7,8,9,10,11],[],[],[],[]⟩,⟨[],[0,1,2,3,4,5,6,7,8,9,10,11,12],[],[],[],[]⟩,⟨[],[0,1,2,3,4,5,6,7,8,9,10,11,12,13],[],[],[],[]⟩]
def fl04d8002d3d : List Go.Vc.Fp := [⟨[0],[],[800003],[120],[],[]⟩,⟨[0],[],[],[120],[],[]⟩,⟨[110],[1],[],[120],[],[]⟩,⟨[111],[1,2],[],[120],[],[]⟩,⟨[112],[1,2,3],[],[120],[],[]⟩,⟨[0],[],[],[120],[],[]⟩,⟨[114],[5],[],[120],[],[]⟩,⟨[115],[5,6],[],[120],[],[]⟩,⟨[116],[5,6,7],[],[120],[],[]⟩,⟨[117],[5,6,7,8],[],[120],[],[]⟩,⟨[118],[5,6,7,8,9],[],[120],[],[]⟩,⟨[113,119],[1,2,3,4,5,6,7,8,9,10],[],[],[800003],[120]⟩,⟨[],[0,1,2,3,4,5,6,7,8,9,10,11],[],[],[],[]⟩,⟨[],[0,1,2,3,4,5,6,7,8,9,10,11,12],[],[],[],[]⟩,⟨[],[0,1,2,3,4,5,6,7,8,9,10,11,12,13],[],[],[],[]⟩]
attribute [local go_sem] fl2d88b9c5cb fl04d8002d3d
attribute [local go_sem] decLine_enc decI_enc decS_enc decTok_enc oneTok_f decVl_enc rs_eta headsBy innersBy llX lmX St.callX St.panOf St.callLG ctrs St.isX St.stepP runS retY St.fzS addL behind ghoK St.gho St.gh SV.flat St.hasO St.setO Ob.jk SV.jk Ob.bx St.cutQ
abbrev EvX := RX × Nat × Nat × List ByteArray × List Int
def sEnd (s0 : RS) : Option Rz → RS
 |some (.ok _ s')=>s'
 |some (.stop _ s' _)=>⟨s'.out,s'.vis,s0.calls⟩
 |none=>s0
def cEnd : Option Rz → Int
 |some (.stop c _ _)=>c
 | _=>0
def rEv (nx : Nat) : Option Rz → SV
 |some (.ok v _)=>.tup [.v (.int .i64 v),.v (.int .i64 (nx : Nat))]
 |some (.stop _ _ q)=>.tup [.v (.int .i64 0),.v (.int .i64 (q : Nat))]
 |none=>.junk
def rPf : Option Rz → SV
 |some (.ok v _)=>.v (.int .i64 v)
 |some (.stop _ _ _)=>.v (.int .i64 0)
 |none=>.junk
def zEv (n : Nat) (x : EvX) : Option Rz := evalG appl x.1.1 x.1.2.1 n x.2.1 (envA x.2.2.2.1 x.2.2.2.2) x.2.2.1 x.1.2.2
structure PrgOk (P : List Line) : Prop where
 prog : ProgS P
 sm : ∀ y ∈ P,smLine y
structure EvOk (n : Nat) (x : EvX) : Prop where
 prog : PrgOk x.1.1
 k : x.2.1 < x.1.1.length
 vld : 0 ≤ exprEnd (exprAt x.1.1 x.2.1) x.2.2.1
 known : knownE x.1.1 x.2.2.2.1 (exprAt x.1.1 x.2.1) = true
 len : x.2.2.2.2.length = x.2.2.2.1.length
 few : x.2.2.2.1.length ≤ 100
 rs : RsOk x.1.2.1 x.1.2.2
 z : (zEv n x).isSome = true
def obE (P : List Line) (lim : Nat) (s : RS) (V : List Int) : List (Nat × Ob) := [(1000000,.box 74 [.sl 4 (P.map encLine),.v (.int .i64 (lim : Nat)),.own 900000,.own 900001,.v (.int .i64 0),.v (.int .i64 0),.own 900002]),(1000001,.sl 3 1 (V.map encI)),(900000,.sl 3 1 (s.out.map encI)),(900001,.dp 36 1 (s.vis.map encVl)),(900002,.sl 3 1 (s.calls.map encI))]
attribute [local go_sem] obS rbS kpS decS0 yen obE zEv
def kEvS (n : Nat) : Ctx := yen [0,4] (fun args obs=>(decS0 obs,(aI args 1).toNat,(aI args 2).toNat,decS (aR args 3),decI (oR obs 1000001)))
 (fun x=>[.ptr 1000000 0 0 0,.v (.int .i64 (x.2.1 : Nat)),.v (.int .i64 (x.2.2.1 : Nat)),.sl 1 (x.2.2.2.1.map encS),.own 1000001]) (fun x=>obE x.1.1 x.1.2.1 x.1.2.2 x.2.2.2.2) (EvOk n) (fun _=>none)
 (fun x=>rEv (nxt (exprAt x.1.1 x.2.1) x.2.2.1) (zEv n x)) (fun x=>rbS (sEnd x.1.2.2 (zEv n x))) (fun x=>kpS x.1.1 x.1.2.1 (cEnd (zEv n x)) ++ [(1000001,.sl 3 1 (x.2.2.2.2.map encI))])
theorem findFn_kd {P : List Line} {y : ByteArray} {f : Nat} (hl : f < P.length) (hf : findFn P y = (f : Int)) : kd P f = 0 := by
 obtain ⟨k,hk,h1,h2⟩ := firstIdx_pos (p := isFn y) (L := P) (by unfold findFn at hf; omega)
 obtain rfl : f = k:=by unfold findFn at hf; omega
 unfold isFn at h2
 simp only [Bool.and_eq_true,decide_eq_true_eq] at h2
 rw [kd_lt hl]; exact h2.1
abbrev PfX := RX × Nat × List Int
def zPf (n : Nat) (x : PfX) : Option Rz := bodyG' appl x.1.1 x.1.2.1 n x.2.1 (envA (argsAt x.1.1 x.2.1) x.2.2) (x.2.1 + 1) x.1.2.2
structure PfOk (n : Nat) (x : PfX) : Prop where
 prog : PrgOk x.1.1
 f : x.2.1 < x.1.1.length
 fn : kd x.1.1 x.2.1 = 0
 len : x.2.2.length = (argsAt x.1.1 x.2.1).length
 rs : RsOk x.1.2.1 x.1.2.2
 z : (zPf n x).isSome = true
def kPfS (n : Nat) : Ctx := yen [0] (fun args obs=>(decS0 obs,(aI args 1).toNat,decI (aR args 2)))
 (fun x=>[.ptr 1000000 0 0 0,.v (.int .i64 (x.2.1 : Nat)),.sl 1 (x.2.2.map encI)]) (fun x=>obS x.1.1 x.1.2.1 x.1.2.2) (PfOk n) (fun _=>none)
 (fun x=>rPf (zPf n x)) (fun x=>rbS (sEnd x.1.2.2 (zPf n x))) (fun x=>kpS x.1.1 x.1.2.1 (cEnd (zPf n x)))
theorem rEv_no (m : Nat) (z : Option Rz) : (rEv m z).owns2 = [] := by
 cases z with
 |none=>rfl
 |some z=>cases z <;> rfl
theorem rPf_no (z : Option Rz) : (rPf z).owns2 = [] := by
 cases z with
 |none=>rfl
 |some z=>cases z <;> rfl
attribute [local go_sem] sEnd cEnd rEv rPf zPf
section
noncomputable def cxEvS := mkX [(98,kArity),(70,kIdxS),(63,kFind),(99,kAppl)] (COk.cons cArityS (COk.cons cIdxSS (COk.cons cFindS (COk.cons cApplS (COk.nil _)))))
theorem cxEvS_t : cxEvS.tys = tys := rfl
theorem cxEvS_c : cxEvS.C = [(98,kArity),(70,kIdxS),(63,kFind),(99,kAppl)] := rfl
attribute [local go_sem] cxEvS_t cxEvS_c kArity kIdxS kFind kAppl
def c2E (n : Nat) : List (FuncId × Ctx) := [(69,kEvS n),(34,kPfS n)]
attribute [local go_sem] c2E kEvS kPfS
set_option maxHeartbeats 4000000 in
theorem evStep (n : Nat) (hC2 : POk Try.prog (c2E n)) : Cy Try.prog 69 (kEvS (n + 1)) := by
 refine Cy.yen Try.func69 (by kernel_rfl) rfl fun x hx=>?_
 obtain ⟨⟨P,lim,s⟩,k,a,L,V⟩ := x
 obtain ⟨hprog,hk,hvld,hknown,hlen,hfew,hrs,hz⟩ := hx
 simp only at hprog hk hvld hknown hlen hfew hrs hz ⊢
 obtain ⟨t,ht,hat,htok,hva⟩ := vld_args hvld
 have hT := exprAt_lt hk
 have hsm := hprog.sm _ (List.getElem_mem hk)
 have h1 := rowAt_map encLine P k hk
 rw [encLine,← hT] at h1
 have h2 := rowAt_map encTok (exprAt P k) a hat
 have hta : (exprAt P k)[a] = t:=by rw [List.getElem?_eq_getElem hat] at ht; exact Option.some.inj ht
 rw [hta] at h2
 have hkn := List.all_eq_true.1 hknown t (hta ▸ List.getElem_mem hat)
 have hsmt : smTok t := hsm.2.2.2 t (by rw [← hT,← hta]; exact List.getElem_mem hat)
 have hTl : (exprAt P k).length ≤ 1048576:=by rw [hT]; exact hsm.2.2.1
 have har : arity t = (arN t : Nat) := if_pos htok
 unfold zEv at hz ⊢
 simp only at hz ⊢
 rw [evalG,ht] at hz ⊢
 simp only at hz ⊢
 have hki : (k : Int) < P.length:=by omega
 have hai : (a : Int) < (exprAt P k).length:=by omega
 refine HoldsY.go (c := cxEvS) Try.func69 rfl Try.results69 Try.ntmps69 (by omega) (by simp) ?_ ?_ ?_
 rotate_right
 intro X0 M w0
 ·refine zP [] [(900000,800001),(900001,800002),(900002,800003)] rfl ?_
  simp only [go_sem]
  obtain ⟨tk,tn,tm⟩ := t
  rw [encTok] at h2
  simp only at h2 har
  have hm4 := arN_le htok
  generalize hm : arN ⟨tk,tn,tm⟩ = m at *
  generalize he : nxt (exprAt P k) a = e at *
  generalize hTT : exprAt P k = T at *
  cases hA : opsG appl P lim n k (envA L V) m (a + 1) [] s with
  |none=>rw [hA] at hz; cases hz
  |some q =>
  rw [hA] at hz
  simp only at hz ⊢
  (repeat' (first|apply zS|apply zB|((first|apply zR|apply zC|apply zT|apply zE|apply zK| refine zF 12 fl2d88b9c5cb [109,110,111,112,113,114,115,116,117,118,119,120] [] [] (by decide +kernel) (by kernel_rfl) (by kernel_rfl) (by kernel_rfl) ?_|refine zD 10 (by decide +kernel) (by kernel_rfl) ?_|refine zD 11 (by decide +kernel) (by kernel_rfl) ?_); simp only [go_sem,hki,hai,h1,h2,har])|apply And.intro|intro _))
  all_goals first|omega|rfl|exact hsmt|skip
  refine zL (fun S : Nat × List Int × RS × Nat=>⟨[(0,.ptr 1000000 0 0 0),(1,.v (.int .i64 (k : Nat))),(2,.v (.int .i64 (ends T S.1 (a + 1) : Nat))),(3,.sl 1 (L.map encS)),(4,.own 1000001),(12,.ptr 12 0 0 0),(13,.own 31),(14,.v (.int .i64 ((m : Int) - S.1)))],
   [(1000000,.box 74 [.sl 4 (P.map encLine),.v (.int .i64 (lim : Nat)),.own 800001,.own 800002,.v (.int .i64 0),.v (.int .i64 0),.own 800003]),(1000001,.sl 3 1 (V.map encI)),(12,.box 120 [.v (.int .i64 tk),.v (.int .i64 tn),.v (.string tm)]),(31,.sl 3 1 (S.2.1.map encI)),
    (800001,.sl 3 1 (S.2.2.1.out.map encI)),(800002,.dp 36 1 (S.2.2.1.vis.map encVl)),(800003,.sl 3 1 (S.2.2.1.calls.map encI))]⟩)
   (fun S=>S.1 ≤ m ∧ S.2.1.length = S.1 ∧ RsOk lim S.2.2.1 ∧ S.2.2.1.calls = s.calls ∧ S.2.2.2 ≤ n ∧ opsG appl P lim S.2.2.2 k (envA L V) (m - S.1) (ends T S.1 (a + 1)) S.2.1 S.2.2.1 = some q ∧ Vld T (m - S.1) (ends T S.1 (a + 1)) e) (fun S=>m - S.1) (0,[],s,n) ?_ ?_ ?_
  ·exact ⟨by simp,rfl,hrs,rfl,Nat.le_refl _,hA,hva⟩
  ·(simp only [go_sem,ends] <;> (first|(and_intros <;> rfl)|simp))
  rintro ⟨j,A,⟨jo,jv,jc⟩,nj⟩ ⟨hj,hAl,hsj,hcj,hnj,hG,hV⟩
  simp only at hj hAl hsj hcj hnj hG hV ⊢
  subst hcj
  by_cases hjm : j < m
  ·have hji : (0 : Int) < (m : Int) - j:=by omega
   obtain ⟨m',hm'⟩ : ∃ m',m - j = m' + 1 := ⟨m - j - 1,by omega⟩
   rw [hm'] at hG hV
   have hmj : (m : Int) - j - 1 = (m : Int) - (j + 1):=by omega
   obtain ⟨hpl,hpv,hV2⟩ := hV.step
   cases nj with
   |zero=>simp [opsG] at hG
   |succ nj =>
   rw [opsG,hTT] at hG
   have hes := ends_succ T j (a + 1)
   generalize hp : ends T j (a + 1) = p at *
   cases hE : evalG appl P lim nj k (envA L V) p ⟨jo,jv,s.calls⟩ with
   |none=>rw [hE] at hG; cases hG
   |some z1 =>
   rw [hE] at hG
   have hEn := evalG_up (show nj ≤ n by omega) hE
   have hz1 := (small nj).1 0 _ _ _ _ _ hsj hE
   have hEv : EvOk n ((P,lim,⟨jo,jv,s.calls⟩),k,p,L,V) := ⟨hprog,hk,by simp only [hTT]; exact hpv,by simp only [hTT]; exact hknown,hlen,hfew,hsj,by unfold zEv; simp only [hEn]; rfl⟩
   have hnx : nxt T p = p + (nxt T p - p):=by have := nxt_gt T p; omega
   cases z1 with
   |stop c s1 q1 =>
    simp only at hG
    obtain rfl : q = .stop c s1 q1 := (Option.some.inj hG).symm
    obtain ⟨hs1,hc⟩ := hz1
    have hc0 : ¬ c = 0:=by rcases hc with rfl|rfl <;> omega
    (repeat' (first|apply zS|apply zB|((first|refine WP.regionP (id := 7) hC2 ?_); simp only [go_sem,hji,hTT,hEn,hc0])|((first|apply zR|apply zC|apply zT|apply zE|apply zK| refine zF 12 fl2d88b9c5cb [109,110,111,112,113,114,115,116,117,118,119,120] [] [] (by decide +kernel) (by kernel_rfl) (by kernel_rfl) (by kernel_rfl) ?_|refine zD 10 (by decide +kernel) (by kernel_rfl) ?_|refine zD 11 (by decide +kernel) (by kernel_rfl) ?_); simp only [go_sem,hji,hTT,hEn,hc0])|apply And.intro|intro _))
    all_goals first|omega|rfl|exact hEv|skip
   |ok v s1 =>
    simp only at hG
    have hg1 := (grows nj).1 _ _ _ _ _ _ hE
    obtain ⟨o1,v1,c1⟩ := s1
    obtain rfl : c1 = s.calls := hg1.2
    (repeat' (first|apply zS|apply zB|((first|refine WP.regionP (id := 7) hC2 ?_); simp only [go_sem,hji,hTT,hEn])|((first|apply zR|apply zC|apply zT|apply zE|apply zK| refine zF 12 fl2d88b9c5cb [109,110,111,112,113,114,115,116,117,118,119,120] [] [] (by decide +kernel) (by kernel_rfl) (by kernel_rfl) (by kernel_rfl) ?_|refine zD 10 (by decide +kernel) (by kernel_rfl) ?_|refine zD 11 (by decide +kernel) (by kernel_rfl) ?_); simp only [go_sem,hji,hTT,hEn])|apply And.intro|intro _))
    all_goals first|omega|rfl|exact hEv|skip
    all_goals first|exact ⟨(j + 1,A ++ [v],⟨o1,v1,s.calls⟩,nj),⟨by simp only; omega,by simp only [List.length_append,List.length_cons,List.length_nil]; omega,hz1,rfl,by simp only; omega,by simp only; rw [show m - (j + 1) = m' by omega,hes]; exact hG,by simp only; rw [show m - (j + 1) = m' by omega,hes]; exact hV2⟩,by simp only; omega,by simp only [hes,hmj,Int.natCast_add,Int.cast_ofNat_Int,List.map_append,List.map_cons,List.map_nil,encI]; (first|(and_intros <;> rfl)|simp)⟩|trace_state
  ·have hge : ¬ (0 : Int) < (m : Int) - j:=by omega
   obtain rfl : j = m:=by omega
   rw [Nat.sub_self] at hG hV
   have hpe := hV.zero
   cases nj with
   |zero=>simp [opsG] at hG
   |succ nj =>
   rw [opsG] at hG
   obtain rfl : q = .ok A ⟨jo,jv,s.calls⟩ := (Option.some.inj hG).symm
   simp only at hz ⊢
   by_cases k0 : tk = 0
   ·rw [if_pos k0]
    (repeat' (first|apply zS|apply zB|((first|apply zR|apply zC|apply zT|apply zE|apply zK| refine zF 12 fl2d88b9c5cb [109,110,111,112,113,114,115,116,117,118,119,120] [] [] (by decide +kernel) (by kernel_rfl) (by kernel_rfl) (by kernel_rfl) ?_|refine zD 10 (by decide +kernel) (by kernel_rfl) ?_|refine zD 11 (by decide +kernel) (by kernel_rfl) ?_); simp only [go_sem,hge,k0,hpe])|apply And.intro|intro _))
    all_goals first|omega|rfl|skip
   rw [if_neg k0] at hz ⊢
   by_cases k1 : tk = 1
   ·rw [if_pos k1]
    have hmem : tm ∈ L := by
     unfold knownT at hkn
     simp only [k1,if_true,Bool.and_eq_true,decide_eq_true_eq] at hkn
     exact hkn.1
    obtain ⟨i,i1,i2,i3⟩ := envA_mem (V := V) hmem (by omega)
    have i1 : firstIdx (strIs tm) L = (i : Int) := i1
    have hiV : i < V.length:=by omega
    have hiVi : (i : Int) < V.length:=by omega
    have hr := rowAt_map encI V i hiV
    rw [encI,← i3 hiV] at hr
    (repeat' (first|apply zS|apply zB|((first|apply zR|apply zC|apply zT|apply zE|apply zK| refine zF 12 fl2d88b9c5cb [109,110,111,112,113,114,115,116,117,118,119,120] [] [] (by decide +kernel) (by kernel_rfl) (by kernel_rfl) (by kernel_rfl) ?_|refine zD 10 (by decide +kernel) (by kernel_rfl) ?_|refine zD 11 (by decide +kernel) (by kernel_rfl) ?_); simp only [go_sem,hge,k0,k1,hpe,i1,hiVi,hr])|apply And.intro|intro _))
    all_goals first|omega|rfl|skip
   rw [if_neg k1] at hz ⊢
   by_cases k7 : tk = 7
   ·rw [if_pos k7] at hz ⊢
    have hkf : 0 ≤ findFn P tm ∧ ((argsAt P (findFn P tm).toNat).length : Int) = tn := by
     unfold knownT at hkn
     simp only [k7,if_true,Bool.and_eq_true,decide_eq_true_eq] at hkn
     exact hkn.2
    obtain hf|⟨f,hfl,hf⟩ := findFn_form P tm
    ·omega
    have hf0 : kd P f = 0 := findFn_kd hfl hf
    rw [hf] at hz hkf ⊢
    simp only [Int.toNat_natCast] at hz hkf ⊢
    have hmt : (j : Int) = tn := by
     unfold arN at hm; rw [if_pos k7] at hm; simp only at hm; omega
    have h6l : s.calls.length ≤ 6 := hsj.c
    by_cases h6 : 6 ≤ s.calls.length
    ·have h6e : (s.calls.length : Int) = 6:=by omega
     rw [if_pos h6]
     (repeat' (first|apply zS|apply zB|((first|apply zR|apply zC|apply zT|apply zE|apply zK| refine zF 12 fl2d88b9c5cb [109,110,111,112,113,114,115,116,117,118,119,120] [] [] (by decide +kernel) (by kernel_rfl) (by kernel_rfl) (by kernel_rfl) ?_|refine zD 10 (by decide +kernel) (by kernel_rfl) ?_|refine zD 11 (by decide +kernel) (by kernel_rfl) ?_); simp only [go_sem,hge,k7,hpe,h6e])|apply And.intro|intro _))
     all_goals first|omega|rfl|skip
    have h6e : ¬ (s.calls.length : Int) = 6:=by omega
    rw [if_neg h6] at hz ⊢
    cases hB : bodyG' appl P lim n f (envA (argsAt P f) A) (f + 1) (pushC ⟨jo,jv,s.calls⟩ k) with
    |none=>rw [hB] at hz; cases hz
    |some z1 =>
    have hPf : PfOk n ((P,lim,pushC ⟨jo,jv,s.calls⟩ k),f,A) := ⟨hprog,hfl,hf0,by simp only; omega,hsj.push h6,by unfold zPf; simp only [hB]; rfl⟩
    have hlc : ((s.calls ++ [(k : Int)]).length : Int) - 1 = s.calls.length:=by rw [List.length_append]; simp
    have hpc : List.map encI s.calls ++ [[SV.v (.int .i64 (k : Int))]] = (s.calls ++ [(k : Int)]).map encI:=by rw [List.map_append]; rfl
    have hpt : List.take s.calls.length (List.map encI (s.calls ++ [(k : Int)])) = s.calls.map encI:=by rw [List.map_append,List.take_left' (by rw [List.length_map])]
    have hPL : P.length ≤ 1048576:=by have := hprog.prog.few; omega
    refine zP [31] [] rfl ?_
    simp only [go_sem]
    cases z1 with
    |stop c s1 q1 =>
     simp only
     (repeat' ((fail_if_success refine WP.atReg (b := 22) ?_); first|apply zS|apply zB|((first|apply zR|apply zC|apply zT|apply zE|apply zK| refine zF 12 fl2d88b9c5cb [109,110,111,112,113,114,115,116,117,118,119,120] [] [] (by decide +kernel) (by kernel_rfl) (by kernel_rfl) (by kernel_rfl) ?_|refine zD 10 (by decide +kernel) (by kernel_rfl) ?_|refine zD 11 (by decide +kernel) (by kernel_rfl) ?_); simp only [go_sem,hge,k7,h6e])|apply And.intro|intro _))
     all_goals first|omega|rfl|skip
     rw [hpc]
     simp only [pushC] at hB
     (repeat' ((fail_if_success refine WP.atReg (b := 24) ?_); first|apply zS|apply zB|((first|refine WP.drawP (id := 22) 9 hC2 (by decide +kernel) (by kernel_rfl) ?_|refine WP.flowB 1000000 12 [⟨[0],[],[800003],[120],[],[]⟩,⟨[0],[],[],[120],[],[]⟩,⟨[110],[1],[],[120],[],[]⟩,⟨[111],[1,2],[],[120],[],[]⟩,⟨[112],[1,2,3],[],[120],[],[]⟩,⟨[0],[],[],[120],[],[]⟩,⟨[114],[5],[],[120],[],[]⟩,⟨[115],[5,6],[],[120],[],[]⟩,⟨[116],[5,6,7],[],[120],[],[]⟩,⟨[117],[5,6,7,8],[],[120],[],[]⟩,⟨[118],[5,6,7,8,9],[],[120],[],[]⟩,⟨[113,119],[1,2,3,4,5,6,7,8,9,10],[],[],[800003],[120]⟩,⟨[],[0,1,2,3,4,5,6,7,8,9,10,11],[],[],[],[]⟩,⟨[],[0,1,2,3,4,5,6,7,8,9,10,11,12],[],[],[],[]⟩,⟨[],[0,1,2,3,4,5,6,7,8,9,10,11,12,13],[],[],[],[]⟩] [109,110,111,112,113,114,115,116,117,118,119,120] [120] [800003] (by decide +kernel) (by kernel_rfl) (by kernel_rfl) (by kernel_rfl) (by decide) ?_); simp only [go_sem,hf,hB,pushC,hlc])|((first|apply zR|apply zC|apply zT|apply zE|apply zK| refine zF 12 fl04d8002d3d [109,110,111,112,113,114,115,116,117,118,119,120] [120] [800003] (by decide +kernel) (by kernel_rfl) (by kernel_rfl) (by kernel_rfl) ?_|refine zD 10 (by decide +kernel) (by kernel_rfl) ?_|refine zD 11 (by decide +kernel) (by kernel_rfl) ?_); simp only [go_sem,hf,hB,pushC,hlc])|apply And.intro|intro _))
     all_goals first|omega|rfl|exact hPL|exact hPf|skip
     rw [hpt]
     refine zP [] [(120,800003)] rfl ?_
     (repeat' (first|apply zS|apply zB|((first|apply zR|apply zC|apply zT|apply zE|apply zK| refine zF 12 fl2d88b9c5cb [109,110,111,112,113,114,115,116,117,118,119,120] [] [] (by decide +kernel) (by kernel_rfl) (by kernel_rfl) (by kernel_rfl) ?_|refine zD 10 (by decide +kernel) (by kernel_rfl) ?_|refine zD 11 (by decide +kernel) (by kernel_rfl) ?_); simp only [go_sem,hpe])|apply And.intro|intro _))
     all_goals first|omega|rfl|skip
    |ok v s1 =>
     have hg1 := (grows n).2.2 _ _ _ _ _ _ hB
     obtain ⟨o1,v1,c1⟩ := s1
     obtain rfl : c1 = s.calls ++ [(k : Int)] := hg1.2
     simp only [popC,List.dropLast_concat]
     (repeat' ((fail_if_success refine WP.atReg (b := 22) ?_); first|apply zS|apply zB|((first|apply zR|apply zC|apply zT|apply zE|apply zK| refine zF 12 fl2d88b9c5cb [109,110,111,112,113,114,115,116,117,118,119,120] [] [] (by decide +kernel) (by kernel_rfl) (by kernel_rfl) (by kernel_rfl) ?_|refine zD 10 (by decide +kernel) (by kernel_rfl) ?_|refine zD 11 (by decide +kernel) (by kernel_rfl) ?_); simp only [go_sem,hge,k7,h6e])|apply And.intro|intro _))
     all_goals first|omega|rfl|skip
     rw [hpc]
     simp only [pushC] at hB
     (repeat' ((fail_if_success refine WP.atReg (b := 24) ?_); first|apply zS|apply zB|((first|refine WP.drawP (id := 22) 9 hC2 (by decide +kernel) (by kernel_rfl) ?_|refine WP.flowB 1000000 12 [⟨[0],[],[800003],[120],[],[]⟩,⟨[0],[],[],[120],[],[]⟩,⟨[110],[1],[],[120],[],[]⟩,⟨[111],[1,2],[],[120],[],[]⟩,⟨[112],[1,2,3],[],[120],[],[]⟩,⟨[0],[],[],[120],[],[]⟩,⟨[114],[5],[],[120],[],[]⟩,⟨[115],[5,6],[],[120],[],[]⟩,⟨[116],[5,6,7],[],[120],[],[]⟩,⟨[117],[5,6,7,8],[],[120],[],[]⟩,⟨[118],[5,6,7,8,9],[],[120],[],[]⟩,⟨[113,119],[1,2,3,4,5,6,7,8,9,10],[],[],[800003],[120]⟩,⟨[],[0,1,2,3,4,5,6,7,8,9,10,11],[],[],[],[]⟩,⟨[],[0,1,2,3,4,5,6,7,8,9,10,11,12],[],[],[],[]⟩,⟨[],[0,1,2,3,4,5,6,7,8,9,10,11,12,13],[],[],[],[]⟩] [109,110,111,112,113,114,115,116,117,118,119,120] [120] [800003] (by decide +kernel) (by kernel_rfl) (by kernel_rfl) (by kernel_rfl) (by decide) ?_); simp only [go_sem,hf,hB,pushC,hlc])|((first|apply zR|apply zC|apply zT|apply zE|apply zK| refine zF 12 fl04d8002d3d [109,110,111,112,113,114,115,116,117,118,119,120] [120] [800003] (by decide +kernel) (by kernel_rfl) (by kernel_rfl) (by kernel_rfl) ?_|refine zD 10 (by decide +kernel) (by kernel_rfl) ?_|refine zD 11 (by decide +kernel) (by kernel_rfl) ?_); simp only [go_sem,hf,hB,pushC,hlc])|apply And.intro|intro _))
     all_goals first|omega|rfl|exact hPL|exact hPf|skip
     rw [hpt]
     refine zP [] [(120,800003)] rfl ?_
     (repeat' (first|apply zS|apply zB|((first|apply zR|apply zC|apply zT|apply zE|apply zK| refine zF 12 fl2d88b9c5cb [109,110,111,112,113,114,115,116,117,118,119,120] [] [] (by decide +kernel) (by kernel_rfl) (by kernel_rfl) (by kernel_rfl) ?_|refine zD 10 (by decide +kernel) (by kernel_rfl) ?_|refine zD 11 (by decide +kernel) (by kernel_rfl) ?_); simp only [go_sem,hpe])|apply And.intro|intro _))
     all_goals first|omega|rfl|skip
   ·rw [if_neg k7]
    obtain rfl : j = 2 := by
     unfold arN at hm; simp only at hm
     rw [if_neg k7,if_neg (by omega)] at hm; exact hm.symm
    obtain ⟨x,y,rfl⟩ : ∃ x y,A = [x,y] := by
     match A,hAl with
     | [x,y],_=>exact ⟨x,y,rfl⟩
    simp only [List.getD_cons_zero,List.getD_cons_succ]
    (repeat' (first|apply zS|apply zB|((first|apply zR|apply zC|apply zT|apply zE|apply zK| refine zF 12 fl2d88b9c5cb [109,110,111,112,113,114,115,116,117,118,119,120] [] [] (by decide +kernel) (by kernel_rfl) (by kernel_rfl) (by kernel_rfl) ?_|refine zD 10 (by decide +kernel) (by kernel_rfl) ?_|refine zD 11 (by decide +kernel) (by kernel_rfl) ?_); simp only [go_sem,hge,k0,k1,k7,hpe])|apply And.intro|intro _))
    all_goals first|omega|rfl|trivial|skip
 ·exact rEv_no _ _
 ·intro h; cases h
end
end Go.Proofs.Ytjjbcoigaejoaaa

namespace Go.Proofs.Ytjjbcoigaejoaaa
open Go.Vc
attribute [local irreducible] Go.Vc.WP
attribute [local go_sem] cx0_t cx0_c
attribute [local go_sem] decLine_enc decI_enc decS_enc decTok_enc oneTok_f decVl_enc rs_eta headsBy innersBy llX lmX St.callX St.panOf St.callLG ctrs St.isX St.stepP runS retY St.fzS addL behind ghoK St.gho St.gh SV.flat St.hasO St.setO Ob.jk SV.jk Ob.bx St.cutQ St.cutK St.runO St.stepO
attribute [local go_sem] aPk obS rbS kpS decS0 yen obE zEv sEnd cEnd rEv rPf
theorem shLine_sm {y : Line} (h : smLine y) : shLine y := ⟨h.2.1.1,h.2.2.1⟩
attribute [local irreducible] shLine
theorem encW_len (P : List Line) (f i : Nat) : (encW P f i).length ≤ i := by
 unfold encW encN
 rw [List.length_map]
 have := List.length_filter_le (inW P f i) (List.range i)
 rwa [List.length_range] at this
theorem encW_first (P : List Line) (f : Nat) : encW P f (f + 1) = [] := by
 unfold encW encN
 rw [List.filter_eq_nil_iff.2 fun w hw=>by
  have := List.mem_range.1 hw
  rw [inW_no fun h=>by omega]; decide]
 rfl
section
noncomputable def cxPfS := mkX [(66,kLcl),(64,kBlk),(67,kElse),(70,kIdxS)] (COk.cons cLclS (COk.cons cBlkS (COk.cons cElseS (COk.cons cIdxSS (COk.nil _)))))
theorem cxPfS_t : cxPfS.tys = tys := rfl
theorem cxPfS_c : cxPfS.C = [(66,kLcl),(64,kBlk),(67,kElse),(70,kIdxS)] := rfl
attribute [local go_sem] cxPfS_t cxPfS_c kLcl kBlk kElse kIdxS
def c1P (n : Nat) : List (FuncId × Ctx) := [(68,kVisS),(69,kEvS n)]
attribute [local go_sem] c1P kVisS kEvS kPfS
set_option maxHeartbeats 4000000 in
theorem pfStep (n : Nat) (hC1 : POk Try.prog (c1P n)) : Cy Try.prog 34 (kPfS (n + 1)) := by
 refine Cy.yen Try.func34 (by kernel_rfl) rfl fun x hx=>?_
 obtain ⟨⟨P,lim,s⟩,f,V⟩ := x
 obtain ⟨hprog,hfl,hfn,hlen,hrs,hz⟩ := hx
 simp only at hprog hfl hfn hlen hrs hz ⊢
 obtain ⟨E,hF⟩ := hprog.prog.fn hfl hfn
 obtain ⟨B,hB⟩ := hF.args
 have hPL : P.length ≤ 1048576:=by have := hprog.prog.few; omega
 have hEl := hF.hE.lt
 have hfE := hF.lt
 have heo := hF.eo
 have hfew := hF.few
 have hlB : (localsOf P f).length = V.length + B.length:=by rw [hB,List.length_append,hlen]
 have hsh : ∀ y ∈ P,shLine y := fun y hy=>shLine_sm (hprog.sm y hy)
 have hTy0 : lk 0 tys = none := rfl
 unfold zPf at hz ⊢
 simp only at hz ⊢
 obtain ⟨z,hz⟩ := Option.isSome_iff_exists.1 hz
 rw [hz]
 refine HoldsY.go (c := cxPfS) Try.func34 rfl Try.results34 Try.ntmps34 (by omega) (by simp) ?_ ?_ ?_
 rotate_right
 intro X0 M w0
 ·refine zP [] [(900000,800001),(900001,800002),(900002,800003)] rfl ?_
  simp only [go_sem]
  (repeat' (first|apply zS|apply zB|((first|apply zR|apply zC|apply zT|apply zE|apply zK| refine zD 18 (by decide +kernel) (by kernel_rfl) ?_); simp only [go_sem])|apply And.intro|intro _))
  all_goals first|omega|rfl|exact hPL|exact hsh _ ‹_›|exact rowI_ln ‹_›|skip
  refine zP [21] [] rfl ?_
  simp only [go_sem]
  generalize hL : localsOf P f = L at *
  refine zL (fun j : Nat=>⟨[(0,.ptr 1000000 0 0 0),(1,.v (.int .i64 (f : Nat))),(7,.sl 1 (L.map encS)),(8,.own 22)],
   [(1000000,.box 74 [.sl 4 (P.map encLine),.v (.int .i64 (lim : Nat)),.own 800001,.own 800002,.v (.int .i64 0),.v (.int .i64 0),.own 800003]),(22,.sl 3 1 ((V ++ List.replicate j 0).map encI)),
    (800001,.sl 3 1 (s.out.map encI)),(800002,.dp 36 1 (s.vis.map encVl)),(800003,.sl 3 1 (s.calls.map encI))]⟩)
   (fun j=>j ≤ B.length) (fun j=>B.length - j) 0 ?_ ?_ ?_
  ·omega
  ·(simp only [go_sem,List.replicate_zero,List.append_nil] <;> (first|(and_intros <;> rfl)|simp))
  intro j hj
  by_cases hjm : j < B.length
  ·have hji : ((V ++ List.replicate j (0 : Int)).length : Int) < L.length:=by rw [List.length_append,List.length_replicate]; omega
   have hrep : List.map encI (V ++ List.replicate j 0) ++ [[SV.v (.int .i64 0)]] = (V ++ List.replicate (j + 1) 0).map encI:=by rw [List.replicate_succ',← List.append_assoc,List.map_append (l₂ := [0])]; rfl
   (repeat' (first|apply zS|apply zB|((first|apply zR|apply zC|apply zT|apply zE|apply zK| refine zD 18 (by decide +kernel) (by kernel_rfl) ?_); simp only [go_sem,hji])|apply And.intro|intro _))
   all_goals first|omega|rfl|skip
   all_goals first|exact ⟨j + 1,by omega,by omega,by rw [hrep]⟩|trace_state
  have hge : ¬ ((V ++ List.replicate j (0 : Int)).length : Int) < L.length:=by rw [List.length_append,List.length_replicate]; omega
  obtain rfl : j = B.length:=by omega
  have heq : envA L (V ++ List.replicate B.length 0) = envA (argsAt P f) V:=by rw [hB]; exact envA_zeros hlen.symm B _
  have hWl : (V ++ List.replicate B.length (0 : Int)).length = L.length:=by rw [List.length_append,List.length_replicate]; omega
  generalize V ++ List.replicate B.length (0 : Int) = W0 at *
  rw [← heq] at hz
  clear heq hB
  (repeat' (first|apply zS|apply zB|((first|apply zR|apply zC|apply zT|apply zE|apply zK| refine zD 18 (by decide +kernel) (by kernel_rfl) ?_); simp only [go_sem,hge,heo])|apply And.intro|intro _))
  all_goals first|omega|rfl|exact hPL|skip
  refine zL (fun S : Nat × List Int × RS × Nat=>⟨[(0,.ptr 1000000 0 0 0),(1,.v (.int .i64 (f : Nat))),(7,.sl 1 (L.map encS)),(8,.own 22),(9,.v (.int .i64 (E : Nat))),(10,.own 39),(11,.v (.int .i64 (S.1 : Nat)))],
   [(1000000,.box 74 [.sl 4 (P.map encLine),.v (.int .i64 (lim : Nat)),.own 800001,.own 800002,.v (.int .i64 0),.v (.int .i64 0),.own 800003]),(22,.sl 3 1 (S.2.1.map encI)),(39,.sl 3 1 ((encW P f S.1).map encI)),
    (800001,.sl 3 1 (S.2.2.1.out.map encI)),(800002,.dp 36 1 (S.2.2.1.vis.map encVl)),(800003,.sl 3 1 (S.2.2.1.calls.map encI))]⟩)
   (fun S=>f < S.1 ∧ S.1 ≤ E ∧ S.2.1.length = L.length ∧ RsOk lim S.2.2.1 ∧ S.2.2.1.calls = s.calls ∧ S.2.2.2 ≤ n + 1 ∧ bodyG' appl P lim S.2.2.2 f (envA L S.2.1) S.1 S.2.2.1 = some z) (fun S=>S.2.2.2) (f + 1,W0,s,n + 1) ?_ ?_ ?_
  ·exact ⟨by simp,by simp only; omega,hWl,hrs,rfl,Nat.le_refl _,hz⟩
  ·(simp only [go_sem,encW_first] <;> (first|(and_intros <;> rfl)|simp))
  clear hz hrs hWl
  rintro ⟨i,W,⟨jo,jv,jc⟩,nj⟩ ⟨hfi,hiE,hWl,hsj,hcj,hnj,hG⟩
  simp only at hfi hiE hWl hsj hcj hnj hG ⊢
  subst hcj
  obtain ⟨nj,rfl⟩ : ∃ m,nj = m + 1 := by
   cases nj with
   |zero=>simp [bodyG'] at hG
   |succ m=>exact ⟨m,rfl⟩
  rw [bodyG'] at hG
  by_cases hE' : i = E
  ·subst hE'
   have hge : ¬ (i : Int) < (i : Nat):=by omega
   rw [if_neg (by rw [hF.endk]; omega),if_pos hF.endk,ownE_end hF.hE (opens_of (.inl hF.hf)) hF.lt,if_pos hF.hf] at hG
   obtain rfl : z = .ok 0 ⟨jo,jv,s.calls⟩ := (Option.some.inj hG).symm
   (repeat' (first|apply zS|apply zB|((first|apply zR|apply zC|apply zT|apply zE|apply zK| refine zD 18 (by decide +kernel) (by kernel_rfl) ?_); simp only [go_sem,hge])|apply And.intro|intro _))
   all_goals first|omega|rfl|skip
   trace_state
  have hiEi : (i : Int) < (E : Nat):=by omega
  have hI := hF.inF i hfi (by omega)
  have hil : i < P.length:=by omega
  have hili : (i : Int) < P.length:=by omega
  have h1 := rowAt_map encLine P i hil
  rw [encLine,← kd_lt hil,← nameAt_lt hil] at h1
  by_cases k4 : kd P i = 4
  ·obtain ⟨k,e,p1,p2,p3,p4,p5,p6,p7,p8⟩ := hF.els i hfi (by omega) k4
   have hIk := hF.inF k p1 (by omega)
   have henc : encW P f (e + 1) = encW P f i := by
    rw [enc_skip hIk (.inl p4) p5 (by omega),← enc_else hIk p3,enc_next hI (by omega) (by omega)]
   rw [if_pos k4,ownE_else p3,p6,Int.toNat_natCast] at hG
   (repeat' (first|apply zS|apply zB|((first|apply zR|apply zC|apply zT|apply zE|apply zK| refine zD 18 (by decide +kernel) (by kernel_rfl) ?_); simp only [go_sem,hiEi,hili,h1,k4])|apply And.intro|intro _))
   all_goals first|omega|rfl|exact hPL|skip
   refine zL (fun w : Nat=>⟨[(0,.ptr 1000000 0 0 0),(1,.v (.int .i64 (f : Nat))),(7,.sl 1 (L.map encS)),(8,.own 22),(9,.v (.int .i64 (E : Nat))),(10,.own 39),(11,.v (.int .i64 (if w ≤ k then i else e : Nat))),(13,.v (.int .i64 (w : Nat)))],
    [(1000000,.box 74 [.sl 4 (P.map encLine),.v (.int .i64 (lim : Nat)),.own 800001,.own 800002,.v (.int .i64 0),.v (.int .i64 0),.own 800003]),(22,.sl 3 1 (W.map encI)),(39,.sl 3 1 ((encW P f i).map encI)),
     (800001,.sl 3 1 (jo.map encI)),(800002,.dp 36 1 (jv.map encVl)),(800003,.sl 3 1 (s.calls.map encI))]⟩)
    (fun w=>w ≤ e) (fun w=>e - w) f ?_ ?_ ?_
   ·omega
   ·(simp only [go_sem,if_pos (show f ≤ k by omega)] <;> (first|(and_intros <;> rfl)|simp))
   intro w hw
   by_cases hwk : w ≤ k
   ·rw [if_pos hwk]
    have hwi : (w : Int) < i:=by omega
    by_cases hq : w = k
    ·subst hq
     (repeat' (first|apply zS|apply zB|((first|apply zR|apply zC|apply zT|apply zE|apply zK| refine zD 18 (by decide +kernel) (by kernel_rfl) ?_); simp only [go_sem,hwi,p3,p6])|apply And.intro|intro _))
     all_goals first|omega|rfl|exact hPL|skip
     all_goals first|exact ⟨w + 1,by omega,by omega,by rw [if_neg (by omega)]; (first|(and_intros <;> rfl)|simp)⟩|trace_state
    ·have hne : ¬ elseOf P (w : Nat) = (i : Int) := fun h=>hq (elseOf_own h p3)
     (repeat' (first|apply zS|apply zB|((first|apply zR|apply zC|apply zT|apply zE|apply zK| refine zD 18 (by decide +kernel) (by kernel_rfl) ?_); simp only [go_sem,hwi,hne])|apply And.intro|intro _))
     all_goals first|omega|rfl|exact hPL|skip
     all_goals first|exact ⟨w + 1,by omega,by omega,by rw [if_pos (by omega)]; (first|(and_intros <;> rfl)|simp)⟩|trace_state
   ·rw [if_neg hwk]
    by_cases hwe : w < e
    ·have hwi : (w : Int) < e:=by omega
     have hne : ¬ elseOf P (w : Nat) = (e : Int) := fun h=>by
      obtain ⟨_,_,_,_,h4,_⟩ := elseOf_in h
      have := p5.kind (opens_of (.inr (.inl p4))) (by omega)
      omega
     (repeat' (first|apply zS|apply zB|((first|apply zR|apply zC|apply zT|apply zE|apply zK| refine zD 18 (by decide +kernel) (by kernel_rfl) ?_); simp only [go_sem,hwi,hne])|apply And.intro|intro _))
     all_goals first|omega|rfl|exact hPL|skip
     all_goals first|exact ⟨w + 1,by omega,by omega,by rw [if_neg (by omega)]; (first|(and_intros <;> rfl)|simp)⟩|trace_state
    ·have hwi : ¬ (w : Int) < e:=by omega
     (repeat' (first|apply zS|apply zB|((first|apply zR|apply zC|apply zT|apply zE|apply zK| refine zD 18 (by decide +kernel) (by kernel_rfl) ?_); simp only [go_sem,hwi])|apply And.intro|intro _))
     all_goals first|omega|rfl|exact hPL|skip
     all_goals first|exact ⟨(e + 1,W,⟨jo,jv,s.calls⟩,nj),⟨by simp only; omega,by simp only; omega,hWl,hsj,rfl,by simp only; omega,hG⟩,by simp only; omega,by simp only [henc,Int.natCast_add,Int.cast_ofNat_Int]; (first|(and_intros <;> rfl)|simp)⟩|trace_state
  by_cases k7 : kd P i = 7
  ·obtain ⟨k,p1,p2,p3,p4⟩ := hI.owner k7
   have hok := opens_of (P := P) (k := k) (.inr p4)
   have hke := endOf_of hok p3
   rw [if_neg k4,if_pos k7,ownE_end p3 hok p2,if_neg (by omega)] at hG
   by_cases k5 : kd P k = 5
   ·rw [if_pos k5] at hG
    have hcb := encW_len P f k
    rw [enc_endwhile hI k5 p3 p2 p1]
    generalize hWk : encW P f k = Wk at *
    have hlen1 : (Wk ++ [(k : Int)]).length = Wk.length + 1:=by rw [List.length_append]; rfl
    have hgt : (0 : Int) < ((Wk ++ [(k : Int)]).length : Int):=by omega
    have hm1 : ((Wk ++ [(k : Int)]).length : Int) - 1 = (Wk.length : Nat):=by omega
    have hlt : (Wk.length : Int) < ((Wk ++ [(k : Int)]).length : Nat):=by omega
    have hrow := rowAt_map encI (Wk ++ [(k : Int)]) Wk.length (by omega)
    rw [encI,List.getElem_append_right (Nat.le_refl _)] at hrow
    simp only [Nat.sub_self,List.getElem_cons_zero] at hrow
    have hpt : List.take Wk.length (List.map encI (Wk ++ [(k : Int)])) = Wk.map encI:=by rw [List.map_append,List.take_left' (by rw [List.length_map])]
    (repeat' ((fail_if_success refine WP.atReg (b := 9) ?_); first|apply zS|apply zB|((first|refine WP.regionCut6 (id := 21) ?_); simp only [go_sem,hiEi,hili,h1,k4,k7,hgt,hm1,hlt,hrow,hke])|((first|apply zR|apply zC|apply zT|apply zE|apply zK| refine zD 18 (by decide +kernel) (by kernel_rfl) ?_); simp only [go_sem,hiEi,hili,h1,k4,k7,hgt,hm1,hlt,hrow,hke])|apply And.intro|intro _))
    all_goals first|omega|rfl|exact hPL|(rw [List.length_map]; omega)|decide|skip
    rw [hpt]
    refine zP [] [(109,39)] rfl ?_
    have hkk : (k : Int) - 1 + 1 = (k : Nat):=by omega
    (repeat' (first|apply zS|apply zB|((first|apply zR|apply zC|apply zT|apply zE|apply zK| refine zD 18 (by decide +kernel) (by kernel_rfl) ?_); simp only [go_sem,hkk])|apply And.intro|intro _))
    all_goals first|omega|rfl|skip
    all_goals first|exact ⟨(k,W,⟨jo,jv,s.calls⟩,nj),⟨by simp only; omega,by simp only; omega,hWl,hsj,rfl,by simp only; omega,hG⟩,by simp only; omega,by simp only [hWk]; (first|(and_intros <;> rfl)|simp)⟩|trace_state
   ·rw [if_neg k5] at hG
    have k3 : kd P k = 3:=by omega
    have hend := hI.endif k3 p3 p2
    have hnx := enc_endif hI k7 k3 p3 p2
    have hWd : encW P f i = (encN P f i).map fun w : Nat=>(w : Int) := rfl
    have hcb := encW_len P f i
    rcases List.eq_nil_or_concat (encN P f i) with h0|⟨N0,w,hN⟩
    ·have h0' : encW P f i = []:=by rw [hWd,h0]; rfl
     rw [h0']
     have hr0 : Go.Vc.rowAt ([] : List (List SV)) ((-1 : Int).toNat) = [] := rfl
     (repeat' (first|apply zS|apply zB|((first|refine WP.regionO (id := 19) ?_); simp only [go_sem,hiEi,hili,h1,k4,k7,hr0,hTy0])|((first|apply zR|apply zC|apply zT|apply zE|apply zK| refine zD 18 (by decide +kernel) (by kernel_rfl) ?_); simp only [go_sem,hiEi,hili,h1,k4,k7,hr0,hTy0])|apply And.intro|intro _))
     all_goals first|omega|rfl|exact hPL|skip
     all_goals first|exact ⟨(i + 1,W,⟨jo,jv,s.calls⟩,nj),⟨by simp only; omega,by simp only; omega,hWl,hsj,rfl,by simp only; omega,hG⟩,by simp only; omega,by simp only [hnx,h0',Int.natCast_add,Int.cast_ofNat_Int]; (first|(and_intros <;> rfl)|simp)⟩|trace_state
    ·rw [List.concat_eq_append] at hN
     have hwe := hend w (by rw [hN]; simp)
     have hW' : encW P f i = N0.map (fun w : Nat=>(w : Int)) ++ [(w : Int)]:=by rw [hWd,hN,List.map_append]; rfl
     generalize N0.map (fun w : Nat=>(w : Int)) = Wk at hW'
     rw [hW']
     rw [hW'] at hcb
     have hlen1 : (Wk ++ [(w : Int)]).length = Wk.length + 1:=by rw [List.length_append]; rfl
     have hgt : (0 : Int) < ((Wk ++ [(w : Int)]).length : Int):=by omega
     have hm1 : ((Wk ++ [(w : Int)]).length : Int) - 1 = (Wk.length : Nat):=by omega
     have hlt : (Wk.length : Int) < ((Wk ++ [(w : Int)]).length : Nat):=by omega
     have hrow := rowAt_map encI (Wk ++ [(w : Int)]) Wk.length (by omega)
     rw [encI,List.getElem_append_right (Nat.le_refl _)] at hrow
     simp only [Nat.sub_self,List.getElem_cons_zero] at hrow
     (repeat' (first|apply zS|apply zB|((first|apply zR|apply zC|apply zT|apply zE|apply zK| refine zD 18 (by decide +kernel) (by kernel_rfl) ?_); simp only [go_sem,hiEi,hili,h1,k4,k7,hgt,hm1,hlt,hrow,hwe])|apply And.intro|intro _))
     all_goals first|omega|rfl|exact hPL|skip
     all_goals first|exact ⟨(i + 1,W,⟨jo,jv,s.calls⟩,nj),⟨by simp only; omega,by simp only; omega,hWl,hsj,rfl,by simp only; omega,hG⟩,by simp only; omega,by simp only [hnx,hW',Int.natCast_add,Int.cast_ofNat_Int]; (first|(and_intros <;> rfl)|simp)⟩|trace_state
  rw [if_neg k4,if_neg k7] at hG
  by_cases hl : lim ≤ jv.length
  ·rw [if_pos hl] at hG
   obtain rfl : z = .stop 1 ⟨jo,jv,s.calls⟩ 0 := (Option.some.inj hG).symm
   (repeat' (first|apply zS|apply zB|((first|refine WP.regionP (id := 22) hC1 ?_); simp only [go_sem,hiEi,hili,h1,k4,k7,hl])|((first|apply zR|apply zC|apply zT|apply zE|apply zK| refine zD 18 (by decide +kernel) (by kernel_rfl) ?_); simp only [go_sem,hiEi,hili,h1,k4,k7,hl])|apply And.intro|intro _))
   all_goals first|omega|rfl|exact hPL|exact hsj|skip
   trace_state
  rw [if_neg hl] at hG
  have hsv := hsj.visit (i := i) hl
  cases hE1 : evalG appl P lim nj i (envA L W) 0 (visit1 ⟨jo,jv,s.calls⟩ i) with
  |none=>rw [hE1] at hG; cases hG
  |some z1 =>
  rw [hE1] at hG
  have hEn := evalG_up (show nj ≤ n by omega) hE1
  have hz1 := (small nj).1 1 _ _ _ _ _ hsv hE1
  have hEv : EvOk n ((P,lim,visit1 ⟨jo,jv,s.calls⟩ i),i,0,L,W) := ⟨hprog,hil,hF.vld i hfi (by omega) k4 k7,hL ▸ hF.known i hfi (by omega),hWl,by simp only; omega,hsv.less,by unfold zEv; simp only [hEn]; rfl⟩
  cases z1 with
  |stop c s1 q1 =>
   simp only at hG
   obtain rfl : z = .stop c s1 0 := (Option.some.inj hG).symm
   obtain ⟨hs1,hc⟩ := hz1
   have hc0 : ¬ c = 0:=by rcases hc with rfl|rfl <;> omega
   (repeat' (first|apply zS|apply zB|((first|refine WP.regionP (id := 22) hC1 ?_|refine WP.regionP (id := 24) hC1 ?_); simp only [go_sem,hiEi,hili,h1,k4,k7,hl,hEn,hc0])|((first|apply zR|apply zC|apply zT|apply zE|apply zK| refine zD 18 (by decide +kernel) (by kernel_rfl) ?_); simp only [go_sem,hiEi,hili,h1,k4,k7,hl,hEn,hc0])|apply And.intro|intro _))
   all_goals first|omega|rfl|exact hPL|exact hsj|exact hEv|skip
   trace_state
  |ok v s1 =>
  simp only at hG
  have hg1 := (grows nj).1 _ _ _ _ _ _ hE1
  obtain ⟨o1,v1,c1⟩ := s1
  obtain rfl : c1 = s.calls := hg1.2
  have hsz : RsOk lim ⟨o1,v1,s.calls⟩ := RsD.less hz1
  have hob : o1.length ≤ 1000 := by
   have q1 := hz1.o
   have q2 := hz1.v
   have q3 := hz1.l
   simp only at q1 q2; omega
  have hcb := encW_len P f i
  (repeat' ((fail_if_success refine WP.atReg (b := 27) ?_); first|apply zS|apply zB|((first|refine WP.regionP (id := 22) hC1 ?_|refine WP.regionP (id := 24) hC1 ?_); simp only [go_sem,hiEi,hili,h1,k4,k7,hl,hEn])|((first|apply zR|apply zC|apply zT|apply zE|apply zK| refine zD 18 (by decide +kernel) (by kernel_rfl) ?_); simp only [go_sem,hiEi,hili,h1,k4,k7,hl,hEn])|apply And.intro|intro _))
  all_goals first|omega|rfl|exact hPL|exact hsj|exact hEv|skip
  by_cases k1 : kd P i = 1
  ·rw [if_pos k1] at hG
   have hmem : nameAt P i ∈ L := hL ▸ hF.names i hfi (by omega) k1
   obtain ⟨x,x1,x2,_⟩ := envA_mem (V := W) hmem (by omega)
   have x1' : firstIdx (strIs (nameAt P i)) L = (x : Int) := x1
   have hxW : (x : Int) < W.length:=by omega
   rw [← envA_set x1 (by omega)] at hG
   have hms : (List.map encI W).set x [SV.v (.int .i64 v)] = (W.set x v).map encI:=by rw [List.map_set]; rfl
   have hrx := rowAt_map encI W x (by omega)
   rw [encI] at hrx
   (repeat' (first|apply zS|apply zB|((first|apply zR|apply zC|apply zT|apply zE|apply zK| refine zD 18 (by decide +kernel) (by kernel_rfl) ?_); simp only [go_sem,hili,k1,x1',hxW,hrx])|apply And.intro|intro _))
   all_goals first|omega|rfl|exact hPL|skip
   all_goals first|exact ⟨(i + 1,W.set x v,⟨o1,v1,s.calls⟩,nj),⟨by simp only; omega,by simp only; omega,by simp only [List.length_set]; exact hWl,hsz,rfl,by simp only; omega,hG⟩,by simp only; omega,by simp only [enc_next hI (by omega) k7,Int.natCast_add,Int.cast_ofNat_Int,← hms]; (first|(and_intros <;> rfl)|simp)⟩|trace_state
  rw [if_neg k1] at hG
  by_cases k2 : kd P i = 2
  ·rw [if_pos k2] at hG
   have hso : RsOk lim (out1 ⟨o1,v1,s.calls⟩ v) := RsD.out hz1
   (repeat' (first|apply zS|apply zB|((first|apply zR|apply zC|apply zT|apply zE|apply zK| refine zD 18 (by decide +kernel) (by kernel_rfl) ?_); simp only [go_sem,hili,k1,k2])|apply And.intro|intro _))
   all_goals first|omega|rfl|exact hPL|skip
   all_goals first|exact ⟨(i + 1,W,out1 ⟨o1,v1,s.calls⟩ v,nj),⟨by simp only; omega,by simp only; omega,hWl,hso,rfl,by simp only; omega,hG⟩,by simp only; omega,by simp only [out1,enc_next hI (by omega) k7,Int.natCast_add,Int.cast_ofNat_Int,List.map_append,List.map_cons,List.map_nil,encI]; (first|(and_intros <;> rfl)|simp)⟩|trace_state
  rw [if_neg k2] at hG
  by_cases k6 : kd P i = 6
  ·rw [if_pos k6] at hG
   obtain rfl : z = .ok v ⟨o1,v1,s.calls⟩ := (Option.some.inj hG).symm
   (repeat' (first|apply zS|apply zB|((first|apply zR|apply zC|apply zT|apply zE|apply zK| refine zD 18 (by decide +kernel) (by kernel_rfl) ?_); simp only [go_sem,hili,k1,k2,k6])|apply And.intro|intro _))
   all_goals first|omega|rfl|exact hPL|skip
   trace_state
  rw [if_neg k6] at hG
  have hkk := hF.kinds i hfi (by omega)
  obtain ⟨e,e1,e2,e3,e4⟩ := hI.ends hfi (by omega) (show kd P i = 3 ∨ kd P i = 5 by omega)
  by_cases k5 : kd P i = 5
  ·have hel : elseOf P (i : Nat) = -1:=by unfold elseOf; rw [if_pos (.inr (by rw [Int.toNat_natCast]; omega))]
   have hsk : skipOf P i = e:=by unfold skipOf; rw [hel,e1]; rfl
   by_cases v0 : v = 0
   ·rw [if_pos v0,hsk] at hG
    (repeat' (first|apply zS|apply zB|((first|apply zR|apply zC|apply zT|apply zE|apply zK| refine zD 18 (by decide +kernel) (by kernel_rfl) ?_); simp only [go_sem,hili,k1,k2,k6,k5,v0,e1])|apply And.intro|intro _))
    all_goals first|omega|rfl|exact hPL|skip
    all_goals first|exact ⟨(e + 1,W,⟨o1,v1,s.calls⟩,nj),⟨by simp only; omega,by simp only; omega,hWl,hsz,rfl,by simp only; omega,hG⟩,by simp only; omega,by simp only [enc_skip hI (.inr k5) e2 e3,Int.natCast_add,Int.cast_ofNat_Int,List.map_append,List.map_cons,List.map_nil,encI]; (first|(and_intros <;> rfl)|simp)⟩|trace_state
   ·rw [if_neg v0] at hG
    (repeat' (first|apply zS|apply zB|((first|apply zR|apply zC|apply zT|apply zE|apply zK| refine zD 18 (by decide +kernel) (by kernel_rfl) ?_); simp only [go_sem,hili,k1,k2,k6,k5,v0])|apply And.intro|intro _))
    all_goals first|omega|rfl|exact hPL|skip
    all_goals first|exact ⟨(i + 1,W,⟨o1,v1,s.calls⟩,nj),⟨by simp only; omega,by simp only; omega,hWl,hsz,rfl,by simp only; omega,hG⟩,by simp only; omega,by simp only [enc_while hI k5,Int.natCast_add,Int.cast_ofNat_Int,List.map_append,List.map_cons,List.map_nil,encI]; (first|(and_intros <;> rfl)|simp)⟩|trace_state
  have k3 : kd P i = 3:=by omega
  by_cases v0 : v = 0
  ·rw [if_pos v0] at hG
   by_cases hel : 0 ≤ elseOf P (i : Nat)
   ·obtain ⟨j,hj⟩ := Int.eq_ofNat_of_zero_le hel
    obtain ⟨ee,q1,q2,q3,q4,q5,q6,q7⟩ := elseOf_in hj
    obtain rfl : ee = e := q1.inj e2
    have hj0 : (0 : Int) ≤ (j : Nat):=by omega
    have hsk : skipOf P i = j:=by unfold skipOf; rw [if_pos hel,hj]; rfl
    rw [hsk] at hG
    (repeat' (first|apply zS|apply zB|((first|apply zR|apply zC|apply zT|apply zE|apply zK| refine zD 18 (by decide +kernel) (by kernel_rfl) ?_); simp only [go_sem,hili,k1,k2,k6,k3,v0,hj,hj0])|apply And.intro|intro _))
    all_goals first|omega|rfl|exact hPL|skip
    all_goals first|exact ⟨(j + 1,W,⟨o1,v1,s.calls⟩,nj),⟨by simp only; omega,by simp only; omega,hWl,hsz,rfl,by simp only; omega,hG⟩,by simp only; omega,by simp only [enc_else hI hj,Int.natCast_add,Int.cast_ofNat_Int,List.map_append,List.map_cons,List.map_nil,encI]; (first|(and_intros <;> rfl)|simp)⟩|trace_state
   ·have hsk : skipOf P i = e:=by unfold skipOf; rw [if_neg hel,e1]; rfl
    rw [hsk] at hG
    (repeat' (first|apply zS|apply zB|((first|apply zR|apply zC|apply zT|apply zE|apply zK| refine zD 18 (by decide +kernel) (by kernel_rfl) ?_); simp only [go_sem,hili,k1,k2,k6,k3,v0,hel,e1])|apply And.intro|intro _))
    all_goals first|omega|rfl|exact hPL|skip
    all_goals first|exact ⟨(e + 1,W,⟨o1,v1,s.calls⟩,nj),⟨by simp only; omega,by simp only; omega,hWl,hsz,rfl,by simp only; omega,hG⟩,by simp only; omega,by simp only [enc_skip hI (.inl k3) e2 e3,Int.natCast_add,Int.cast_ofNat_Int,List.map_append,List.map_cons,List.map_nil,encI]; (first|(and_intros <;> rfl)|simp)⟩|trace_state
  ·rw [if_neg v0] at hG
   (repeat' (first|apply zS|apply zB|((first|apply zR|apply zC|apply zT|apply zE|apply zK| refine zD 18 (by decide +kernel) (by kernel_rfl) ?_); simp only [go_sem,hili,k1,k2,k6,k3,v0])|apply And.intro|intro _))
   all_goals first|omega|rfl|exact hPL|skip
   all_goals first|exact ⟨(i + 1,W,⟨o1,v1,s.calls⟩,nj),⟨by simp only; omega,by simp only; omega,hWl,hsz,rfl,by simp only; omega,hG⟩,by simp only; omega,by simp only [enc_next hI (by omega) k7,Int.natCast_add,Int.cast_ofNat_Int,List.map_append,List.map_cons,List.map_nil,encI]; (first|(and_intros <;> rfl)|simp)⟩|trace_state
 ·exact rPf_no _
 ·intro h; cases h
end
end Go.Proofs.Ytjjbcoigaejoaaa

namespace Go.Proofs.Ytjjbcoigaejoaaa
open Go.Vc
attribute [local irreducible] Go.Vc.WP
attribute [local go_sem] cx0_t cx0_c
attribute [local go_sem] obS rbS kpS decS0 yen obE zEv sEnd cEnd rEv rPf
theorem bothS : ∀ n : Nat,Cy Try.prog 69 (kEvS n) ∧ Cy Try.prog 34 (kPfS n)
 | 0=>by
  refine ⟨Cy.yen Try.func69 (by kernel_rfl) rfl fun x hx=>?_,Cy.yen Try.func34 (by kernel_rfl) rfl fun x hx=>?_⟩
  ·have := hx.z
   unfold zEv at this
   simp [evalG] at this
  ·have := hx.z
   unfold zPf at this
   simp [bodyG'] at this
 |n + 1=>by
  obtain ⟨h1,h2⟩ := bothS n
  refine ⟨evStep n ?_,pfStep n ?_⟩
  ·exact POk.cons h1 (POk.cons h2 (POk.nil _))
  ·exact POk.cons cVisS (POk.cons h1 (POk.nil _))
end Go.Proofs.Ytjjbcoigaejoaaa

namespace Go.Proofs.Ytjjbcoigaejoaaa
open Go.Vc
attribute [local irreducible] Go.Vc.WP
attribute [local go_sem] cx0_t cx0_c
attribute [local go_sem] decLine_enc decI_enc decS_enc decTok_enc oneTok_f decVl_enc rs_eta headsBy innersBy llX lmX St.callX St.panOf St.callLG ctrs St.isX St.stepP runS retY St.fzS addL behind ghoK St.gho St.gh SV.flat St.hasO St.setO Ob.jk SV.jk Ob.bx
attribute [local go_sem] St.ado St.adoptB St.adoptS rp isNil
attribute [local go_sem] obS rbS kpS decS0 yen sEnd cEnd rPf
theorem HoldsE.argImp {E : Ending → Value → Prop} {P : Program} {f : FuncId} {args args' : List SV} {obs : List (Nat × Ob)} {res : SV} {robs kept : List (Nat × Ob)} (h : HoldsE E P f args' obs res robs kept) (hl : args'.length = args.length)
  (hi : ∀ (w : World) (X : Nat → Prop) (β : Nat → BV) (i : Nat) (c' : SV) (u : Value),args'[i]? = some c' → (∃ c,args[i]? = some c ∧ R w X β c u) → R w X β c' u) : HoldsE E P f args obs res robs kept := by
 intro w X β vs hG hβ hX hvl ha hobs hlent
 refine h w X β vs hG hβ hX (hvl.trans hl.symm) (fun i c' u hc' hu=>hi w (XX X β obs) β i c' u hc' ?_) hobs hlent
 have hlt : i < args.length:=by rw [← hl]; exact (List.getElem?_eq_some_iff.1 hc').1
 have hc : args[i]? = some (args[i]'hlt) := List.getElem?_eq_getElem hlt
 exact ⟨_,hc,ha i _ u hc hu⟩
def kPf0 (n : Nat) : Ctx := yen [0] (fun _ obs=>decS0 obs) (fun _=>[.ptr 1000000 0 0 0,.v (.int .i64 0),.v (.slice none 0 0)]) (fun x=>obS x.1 x.2.1 x.2.2) (fun x=>PfOk n (x,0,[])) (fun _=>none)
 (fun x=>rPf (zPf n (x,0,[]))) (fun x=>rbS (sEnd x.2.2 (zPf n (x,0,[])))) (fun x=>kpS x.1 x.2.1 (cEnd (zPf n (x,0,[]))))
theorem cPf0 {n : Nat} (h : Cy Try.prog 34 (kPfS n)) : Cy Try.prog 34 (kPf0 n) := ⟨h.call,fun d args obs ha=>by
 obtain ⟨he,ho,hpre⟩ := ha
 have hh := h.holds d [.ptr 1000000 0 0 0,.v (.int .i64 0),.sl 1 []] obs ⟨rfl,ho,hpre⟩
 refine HoldsE.argImp hh (by rw [he]; rfl) fun w X β i c' u hc' ⟨c,hc,hR⟩=>?_
 rw [he] at hc
 match i,hc',hc with
 | 0,hc',hc=>cases hc'; cases hc; exact hR
 | 1,hc',hc=>cases hc'; cases hc; exact hR
 | 2,hc',hc =>
  cases hc'; cases hc
  have := hR.v_inv
  subst this
  exact .p (.nil 1 _ _)
 |i + 3,hc',hc=>simp at hc'⟩
theorem allVs_nil : allVs ([] : List (List SV)) := fun _ h=>by cases h
section
noncomputable def cxIntS := mkX [(32,kPrgOk),(33,k60)] (COk.cons cPrgOkS (COk.cons c58 (COk.nil _)))
theorem cxIntS_t : cxIntS.tys = tys := rfl
theorem cxIntS_c : cxIntS.C = [(32,kPrgOk),(33,k60)] := rfl
attribute [local go_sem] cxIntS_t cxIntS_c kPrgOk k60
def cTop (n : Nat) : List (FuncId × Ctx) := [(34,kPf0 n)]
attribute [local go_sem] cTop kPf0
attribute [local irreducible] smLine
set_option maxHeartbeats 4000000
theorem cIntS : Cn Try.prog 15 kInt := by
 refine Cn.pur Try.func15 (by kernel_rfl) rfl fun d x hx=>?_
 obtain ⟨P,l⟩ := x
 obtain ⟨hPL,hsm⟩ := hx
 simp only at hPL hsm ⊢
 refine Holds.go (c := cxIntS) Try.func15 rfl Try.results15 Try.ntmps15 (by omega) (by simp) rfl ?_
 intro X0 w0
 by_cases hp : progOk P = true
 ·by_cases hl : 0 ≤ l ∧ l ≤ 1000
  ·obtain ⟨n,z,hz⟩ := runs hp l.toNat
   have hi : interp P l = ofZ z := by
    unfold interp; rw [if_pos ⟨hp,hl⟩,runZ_of hz]
   have hC : POk Try.prog (cTop n) := POk.cons (cPf0 (bothS n).2) (POk.nil _)
   simp only [hi]
   clear hi
   obtain ⟨lim,rfl⟩ := Int.eq_ofNat_of_zero_le hl.1
   rw [Int.toNat_natCast] at hz
   have hl2 : ((0 : Int) ≤ (lim : Nat) ∧ ((lim : Nat) : Int) ≤ 1000) = True := eq_true hl
   (repeat' ((fail_if_success refine WP.atReg (b := 4) ?_); first|apply zS|apply zB|((first|apply zR|apply zC|apply zT|apply zE|apply zK);simp only [go_sem,hp,hl2])|apply And.intro|intro _))
   all_goals first|omega|rfl|exact hPL|exact hsm _ ‹_›|skip
   refine zA [.b 19 2 801 3 1,.b 19 3 802 36 1,.b 19 6 803 3 1] ?_
   refine zG [.dp 802] ?_
   simp only [go_sem]
   refine ⟨allVs_nil,?_⟩
   have hPf : PfOk n ((P,lim,⟨[],[],[]⟩),0,[]) := ⟨⟨progOk_iff.1 hp,hsm⟩,List.length_pos_iff.2 (progOk_iff.1 hp).some,(progOk_iff.1 hp).main.1,by simp only [(progOk_iff.1 hp).main.2.2]; rfl,⟨by simp only; omega,Nat.zero_le _,Nat.le_refl _,Nat.zero_le _⟩,by unfold zPf; unfold zTop at hz; simp only [hz]; rfl⟩
   have hd0 : decI [] = [] := rfl
   have hd1 : decVl [] = [] := rfl
   have hzP : zPf n ((P,lim,⟨[],[],[]⟩),0,[]) = some z := hz
   cases z with
   |stop c s q =>
    have hc0 : ¬ c = 0 := by
     have := ((small n).2.2 0 _ _ _ _ _ hPf.rs hz).2
     rcases this with rfl|rfl <;> omega
    (repeat' (first|apply zS|apply zB|((first|refine WP.regionP (id := 4) hC ?_); simp only [go_sem,hd0,hd1,hzP,hc0,ofZ])|((first|apply zR|apply zC|apply zT|apply zE|apply zK);simp only [go_sem,hd0,hd1,hzP,hc0,ofZ])|apply And.intro|intro _))
    all_goals first|omega|rfl|exact hPf|exact ⟨_,_,rfl,_,_,rfl,rfl⟩|exact if_neg (by omega)|skip
   |ok v s =>
    (repeat' (first|apply zS|apply zB|((first|refine WP.regionP (id := 4) hC ?_); simp only [go_sem,hd0,hd1,hzP,ofZ])|((first|apply zR|apply zC|apply zT|apply zE|apply zK);simp only [go_sem,hd0,hd1,hzP,ofZ])|apply And.intro|intro _))
    all_goals first|omega|rfl|exact hPf|exact ⟨_,_,rfl,_,_,rfl,rfl⟩|exact if_neg (by omega)|skip
  ·have hi : interp P l = ([],[],0,3) := by
    unfold interp; rw [if_neg fun q=>hl q.2]
   have hl2 : (0 ≤ l ∧ l ≤ 1000) = False := eq_false hl
   rw [hi]
   (repeat' ((fail_if_success refine WP.atReg (b := 2) ?_); first|apply zS|apply zB|((first|apply zR|apply zC|apply zT|apply zE|apply zK);simp only [go_sem,hp,hl2])|apply And.intro|intro _))
   all_goals first|omega|rfl|exact hPL|exact hsm _ ‹_›|skip
   apply zR
   simp only [go_sem]
   refine zA [.b 4 0 801 3 1,.b 4 1 802 36 1] ?_
   refine zG [.dp 802] ?_
   simp only [go_sem]
   refine ⟨allVs_nil,?_⟩
   (repeat' (first|apply zS|apply zB|((first|apply zR|apply zC|apply zT|apply zE|apply zK);simp only [go_sem])|apply And.intro|intro _))
   all_goals first|omega|rfl|exact ⟨_,_,rfl,_,_,rfl,rfl⟩|exact if_neg (by omega)|skip
 ·have hi : interp P l = ([],[],0,3) := by
   unfold interp; rw [if_neg fun q=>hp q.1]
  rw [hi]
  (repeat' ((fail_if_success refine WP.atReg (b := 2) ?_); first|apply zS|apply zB|((first|apply zR|apply zC|apply zT|apply zE|apply zK);simp only [go_sem,hp])|apply And.intro|intro _))
  all_goals first|omega|rfl|exact hPL|exact hsm _ ‹_›|skip
  apply zR
  simp only [go_sem]
  refine zA [.b 4 0 801 3 1,.b 4 1 802 36 1] ?_
  refine zG [.dp 802] ?_
  simp only [go_sem]
  refine ⟨allVs_nil,?_⟩
  (repeat' (first|apply zS|apply zB|((first|apply zR|apply zC|apply zT|apply zE|apply zK);simp only [go_sem])|apply And.intro|intro _))
  all_goals first|omega|rfl|exact ⟨_,_,rfl,_,_,rfl,rfl⟩|exact if_neg (by omega)|skip
end
end Go.Proofs.Ytjjbcoigaejoaaa

namespace Go.Vc
variable {c : Cx} {N : Nat} {X0 : Nat → Prop} {M : Nat → BV → Prop} {w0 : World} {st : St} {K : Exit → St → Prop}
theorem WP.endP (fz : List Nat) (rn : List (Nat × Nat)) (hrn : rnOk rn = true) {code : Code} (h : WP c N X0 M w0 code st (fun e st'=>K e (st'.prep fz rn))) : WP c N X0 M w0 code st K := fun hA β a w hs =>
 Code.wp_mono (fun e a' w' ⟨st',β2,h1,h2⟩=>by
  obtain ⟨β3,h3⟩ := h2.prep hA (fz := fz) hrn
  exact ⟨_,β3,h1,h3⟩) (h hA β a w hs)
end Go.Vc

namespace Go.Proofs.Ytjjbcoigaejoaaa
open Go.Vc
attribute [local irreducible] Go.Vc.WP
attribute [local go_sem] cx0_t cx0_c
def fl2c4b8bee92 : List Go.Vc.Fp := [⟨[0],[],[22,23,28],[23,28,30,31,32,33],[],[]⟩,⟨[0],[],[23,28],[23,28,30,31,32,33],[],[]⟩,⟨[18],[1],[23,28],[23,28,30,31,32,33],[],[]⟩,⟨[19],[1,2],[23,28],[23,28,30,31,32,33],[],[]⟩,⟨[20],[1,2,3],[23,28],[23,28,30,31,32,33],[],[]⟩,⟨[21],[1,2,3,4],[23,28],[23,28,30,31,32,33],[],[]⟩,⟨[],[],[],[28,30,31,32,33],[],[23]⟩,⟨[0],[],[],[23,28,30,31,32,33],[],[]⟩,⟨[24],[7],[],[23,28,30,31,32,33],[],[]⟩,⟨[25],[7,8],[],[23,28,30,31,32,33],[],[]⟩,⟨[26],[7,8,9],[],[23,28,30,31,32,33],[],[]⟩,⟨[23,27],[6,7,8,9,10],[],[30,31,32,33],[23],[28]⟩,⟨[1],[],[23],[23,28,30,31,32,33],[],[]⟩,⟨[29],[12],[23],[23,28,31,32,33],[],[30]⟩,⟨[28,30],[6,7,8,9,10,11,12,13],[23],[32,33],[28],[31]⟩,⟨[31],[6,7,8,9,10,11,12,13,14],[23,28],[33],[],[32]⟩,⟨[22,32],[1,2,3,4,5,6,7,8,9,10,11,12,13,14,15],[23,28],[],[22],[33]⟩,⟨[],[0,1,2,3,4,5,6,7,8,9,10,11,12,13,14,15,16],[],[],[],[]⟩,⟨[],[0,1,2,3,4,5,6,7,8,9,10,11,12,13,14,15,16,17],[],[],[],[]⟩,⟨[],[0,1,2,3,4,5,6,7,8,9,10,11,12,13,14,15,16,17,18],[],[],[],[]⟩,⟨[],[0,1,2,3,4,5,6,7,8,9,10,11,12,13,14,15,16,17,18,19],[],[],[],[]⟩]
def fl5b6071defb : List Go.Vc.Fp := [⟨[0],[],[23,28,31,32,800002],[23,28,30,31,32,33],[],[]⟩,⟨[0],[],[23,28,31],[23,28,30,31,32,33],[],[]⟩,⟨[18],[1],[23,28,31],[23,28,30,31,32,33],[],[]⟩,⟨[19],[1,2],[23,28,31],[23,28,30,31,32,33],[],[]⟩,⟨[20],[1,2,3],[23,28,31],[23,28,30,31,32,33],[],[]⟩,⟨[21],[1,2,3,4],[23,28,31],[23,28,30,31,32,33],[],[]⟩,⟨[],[],[],[28,30,31,32,33],[],[23]⟩,⟨[0],[],[],[23,28,30,31,32,33],[],[]⟩,⟨[24],[7],[],[23,28,30,31,32,33],[],[]⟩,⟨[25],[7,8],[],[23,28,30,31,32,33],[],[]⟩,⟨[26],[7,8,9],[],[23,28,30,31,32,33],[],[]⟩,⟨[23,27],[6,7,8,9,10],[],[30,31,32,33],[23],[28]⟩,⟨[1],[],[23],[23,28,30,31,32,33],[],[]⟩,⟨[29],[12],[23],[23,28,31,32,33],[],[30]⟩,⟨[28,30],[6,7,8,9,10,11,12,13],[23],[32,33],[28],[31]⟩,⟨[31],[6,7,8,9,10,11,12,13,14],[23,28],[33],[31],[32]⟩,⟨[22,32],[1,2,3,4,5,6,7,8,9,10,11,12,13,14,15],[23,28,31],[],[800002,32],[33]⟩,⟨[],[0,1,2,3,4,5,6,7,8,9,10,11,12,13,14,15,16],[],[],[],[]⟩,⟨[],[0,1,2,3,4,5,6,7,8,9,10,11,12,13,14,15,16,17],[],[],[],[]⟩,⟨[],[0,1,2,3,4,5,6,7,8,9,10,11,12,13,14,15,16,17,18],[],[],[],[]⟩,⟨[],[0,1,2,3,4,5,6,7,8,9,10,11,12,13,14,15,16,17,18,19],[],[],[],[]⟩]
attribute [local go_sem] fl2c4b8bee92 fl5b6071defb
attribute [local go_sem] decLine_enc decI_enc decVl_enc rs_eta headsBy innersBy llX lmX St.callX St.panOf St.callLG ctrs St.isX St.stepP runS retY St.fzS addL behind ghoK St.gho St.gh SV.flat St.hasO St.setO Ob.jk SV.jk Ob.bx
def obI (P : List Line) (lim : Nat) (s : RS) : List (Nat × Ob) := [(1000000,.box 90 [.sl 4 (P.map encLine),.v (.int .i64 (lim : Nat)),.own 900000,.own 900001,.own 900002,.v (.int .i64 0),.v (.int .i64 0),.sl 1 ((ownL P).map encI)]),(900000,.sl 3 1 (s.calls.map encI)),(900001,.sl 3 1 (s.out.map encI)),(900002,.dp 36 1 (s.vis.map encVl))]
def kpI (P : List Line) (lim : Nat) : List (Nat × Ob) := [(1000000,.box 90 [.sl 4 (P.map encLine),.v (.int .i64 (lim : Nat)),.own 800003,.own 800001,.own 800002,.v (.int .i64 0),.v (.int .i64 0),.sl 1 ((ownL P).map encI)])]
def decI0 (obs : List (Nat × Ob)) : RX := match oC obs 1000000 with
 | [.sl _ r,.v (.int _ n),_,_,_,_,_,_]=>(decLine r,n.toNat,⟨decI (oR obs 900001),decVl (oD obs 900002),decI (oR obs 900000)⟩)
 | _=>([],0,⟨[],[],[]⟩)
def stopV (n : Int) : Value := .iface 92 (.agg #[.int .i64 n])
attribute [local go_sem] obI rbS kpI decI0 yen
def kVisI : Ctx := yen [0] (fun args obs=>(decI0 obs,(aI args 1).toNat)) (fun x=>[.ptr 1000000 0 0 0,.v (.int .i64 (x.2 : Nat))]) (fun x=>obI x.1.1 x.1.2.1 x.1.2.2) (fun x=>RsOk x.1.2.1 x.1.2.2)
 (fun x=>if x.1.2.1 ≤ x.1.2.2.vis.length then some (stopV 1) else none)
 (fun x=>if x.1.2.1 ≤ x.1.2.2.vis.length then .junk else .tup []) (fun x=>rbS (if x.1.2.1 ≤ x.1.2.2.vis.length then x.1.2.2 else visit1 x.1.2.2 x.2)) (fun x=>kpI x.1.1 x.1.2.1)
section
noncomputable def cxVisI := mkX [] (COk.nil _)
theorem cxVisI_t : cxVisI.tys = tys := rfl
theorem cxVisI_c : cxVisI.C = [] := rfl
attribute [local go_sem] cxVisI_t cxVisI_c
theorem cVisI : Cy Try.prog 88 kVisI := by
 refine Cy.yen Try.func88 (by kernel_rfl) rfl fun x hx=>?_
 obtain ⟨⟨P,lim,s⟩,k⟩ := x
 simp only at hx ⊢
 obtain ⟨h1,h2,h3,h4⟩ := hx
 obtain ⟨so,sv,sc⟩ := s
 simp only at h2 h3 h4 ⊢
 refine HoldsY.go (c := cxVisI) Try.func88 rfl Try.results88 Try.ntmps88 (by omega) (by simp) ?_ ?_ ?_
 rotate_right
 intro X0 M w0
 ·refine zP [] [(900000,800003),(900001,800001),(900002,800002)] rfl ?_
  simp only [go_sem]
  by_cases hl : lim ≤ sv.length
  ·have hle : (lim : Int) ≤ (sv.length : Nat):=by omega
   simp only [if_pos hl]
   (repeat' (first|apply zS|apply zB|((first|refine WP.regionPanic (id := 1) (.int .i64 1) (by kernel_rfl) ?_); simp only [go_sem,hle])|((first|apply zR|apply zC|apply zT|apply zE|apply zK| refine zF 17 fl2c4b8bee92 [17,18,19,20,21,22,23,24,25,26,27,28,29,30,31,32,33] [23,28,30,31,32,33] [22,23,28] (by decide +kernel) (by kernel_rfl) (by kernel_rfl) (by kernel_rfl) ?_|refine zD 11 (by decide +kernel) (by kernel_rfl) ?_); simp only [go_sem,hle])|apply And.intro|intro _))
   all_goals first|omega|rfl|skip
  ·have hle : ¬ (lim : Int) ≤ (sv.length : Nat):=by omega
   simp only [if_neg hl]
   refine WP.endP [] [(33,800002)] rfl ?_
   (repeat' (first|apply zS|apply zB|((first|refine WP.flowB 1000000 17 [⟨[0],[],[23,28,31,32,800002],[23,28,30,31,32,33],[],[]⟩,⟨[0],[],[23,28,31],[23,28,30,31,32,33],[],[]⟩,⟨[18],[1],[23,28,31],[23,28,30,31,32,33],[],[]⟩,⟨[19],[1,2],[23,28,31],[23,28,30,31,32,33],[],[]⟩,⟨[20],[1,2,3],[23,28,31],[23,28,30,31,32,33],[],[]⟩,⟨[21],[1,2,3,4],[23,28,31],[23,28,30,31,32,33],[],[]⟩,⟨[],[],[],[28,30,31,32,33],[],[23]⟩,⟨[0],[],[],[23,28,30,31,32,33],[],[]⟩,⟨[24],[7],[],[23,28,30,31,32,33],[],[]⟩,⟨[25],[7,8],[],[23,28,30,31,32,33],[],[]⟩,⟨[26],[7,8,9],[],[23,28,30,31,32,33],[],[]⟩,⟨[23,27],[6,7,8,9,10],[],[30,31,32,33],[23],[28]⟩,⟨[1],[],[23],[23,28,30,31,32,33],[],[]⟩,⟨[29],[12],[23],[23,28,31,32,33],[],[30]⟩,⟨[28,30],[6,7,8,9,10,11,12,13],[23],[32,33],[28],[31]⟩,⟨[31],[6,7,8,9,10,11,12,13,14],[23,28],[33],[31],[32]⟩,⟨[22,32],[1,2,3,4,5,6,7,8,9,10,11,12,13,14,15],[23,28,31],[],[800002,32],[33]⟩,⟨[],[0,1,2,3,4,5,6,7,8,9,10,11,12,13,14,15,16],[],[],[],[]⟩,⟨[],[0,1,2,3,4,5,6,7,8,9,10,11,12,13,14,15,16,17],[],[],[],[]⟩,⟨[],[0,1,2,3,4,5,6,7,8,9,10,11,12,13,14,15,16,17,18],[],[],[],[]⟩,⟨[],[0,1,2,3,4,5,6,7,8,9,10,11,12,13,14,15,16,17,18,19],[],[],[],[]⟩] [17,18,19,20,21,22,23,24,25,26,27,28,29,30,31,32,33] [23,28,30,31,32,33] [23,28,31,32,800002] (by decide +kernel) (by kernel_rfl) (by kernel_rfl) (by kernel_rfl) (by decide) ?_); simp only [go_sem,hle,visit1,List.map_append,encVl,encI])|((first|apply zR|apply zC|apply zT|apply zE|apply zK| refine zF 17 fl5b6071defb [17,18,19,20,21,22,23,24,25,26,27,28,29,30,31,32,33] [23,28,30,31,32,33] [23,28,31,32,800002] (by decide +kernel) (by kernel_rfl) (by kernel_rfl) (by kernel_rfl) ?_|refine zD 11 (by decide +kernel) (by kernel_rfl) ?_); simp only [go_sem,hle,visit1,List.map_append,encVl,encI])|apply And.intro|intro _))
   all_goals first|omega|rfl|exact rowI_ln ‹_›|exact rowI_v (by assumption) (by assumption)|skip
 ·split <;> rfl
 ·intro h
  by_cases hl : lim ≤ sv.length
  ·rw [if_pos hl]
  ·rw [if_neg hl] at h; cases h
end
end Go.Proofs.Ytjjbcoigaejoaaa

namespace Go.Proofs.Ytjjbcoigaejoaaa
open Go.Vc
attribute [local irreducible] Go.Vc.WP
attribute [local go_sem] cx0_t cx0_c
attribute [local go_sem] decLine_enc decI_enc decVl_enc rs_eta headsBy innersBy llX lmX St.callX St.panOf St.callLG ctrs St.isX St.stepP runS retY St.fzS addL behind ghoK St.gho St.gh SV.flat St.hasO St.setO Ob.jk SV.jk Ob.bx
attribute [local go_sem] obI rbS kpI decI0 yen aPk
def skipZ (P : List Line) (i : Nat) : Int := if 0 ≤ elseOf P (i : Nat) then elseOf P (i : Nat) else endOf P (i : Nat)
def kSkpI : Ctx := yen [0] (fun args obs=>(decI0 obs,(aI args 1).toNat)) (fun x=>[.ptr 1000000 0 0 0,.v (.int .i64 (x.2 : Nat))]) (fun x=>obI x.1.1 x.1.2.1 x.1.2.2) (fun x=>x.1.1.length ≤ 1048576)
 (fun _=>none) (fun x=>.v (.int .i64 (skipZ x.1.1 x.2))) (fun x=>rbS x.1.2.2) (fun x=>kpI x.1.1 x.1.2.1)
section
noncomputable def cxSkpI := mkX [(82,kBlk),(85,kElse)] (COk.cons cBlkI (COk.cons cElseI (COk.nil _)))
theorem cxSkpI_t : cxSkpI.tys = tys := rfl
theorem cxSkpI_c : cxSkpI.C = [(82,kBlk),(85,kElse)] := rfl
attribute [local go_sem] cxSkpI_t cxSkpI_c kBlk kElse
theorem cSkpI : Cy Try.prog 90 kSkpI := by
 refine Cy.yen Try.func90 (by kernel_rfl) rfl fun x hx=>?_
 obtain ⟨⟨P,lim,s⟩,k⟩ := x
 simp only at hx ⊢
 unfold skipZ
 refine HoldsY.go (c := cxSkpI) Try.func90 rfl Try.results90 Try.ntmps90 (by omega) (by simp) ?_ ?_ ?_
 rotate_right
 intro X0 M w0
 ·refine zP [] [(900000,800003),(900001,800001),(900002,800002)] rfl ?_
  simp only [go_sem]
  by_cases hl : 0 ≤ elseOf P (k : Nat)
  ·rw [if_pos hl]
   (repeat' (first|apply zS|apply zB|((first|apply zR|apply zC|apply zT|apply zE|apply zK);simp only [go_sem,hl])|apply And.intro|intro _))
   all_goals first|omega|rfl|exact hx|skip
  ·rw [if_neg hl]
   (repeat' (first|apply zS|apply zB|((first|apply zR|apply zC|apply zT|apply zE|apply zK);simp only [go_sem,hl])|apply And.intro|intro _))
   all_goals first|omega|rfl|exact hx|skip
 ·rfl
 ·intro h; cases h
end
end Go.Proofs.Ytjjbcoigaejoaaa

namespace Go.Proofs.Ytjjbcoigaejoaaa
open Go.Vc
attribute [local irreducible] Go.Vc.WP
attribute [local go_sem] cx0_t cx0_c
attribute [local go_sem] decTok_enc oneTok_f
def opsN (T : List Tok) (m p : Nat) : List Int := (List.range m).map fun j=>((ends T j p : Nat) : Int)
def opsAt (T : List Tok) (a : Nat) : List Int := opsN T (match T[a]? with|some t=>arN t|none=>0) (a + 1)
theorem opsN_succ (T : List Tok) (m p : Nat) : opsN T (m + 1) p = opsN T m p ++ [((ends T m p : Nat) : Int)]:=by unfold opsN; rw [List.range_succ,List.map_append]; rfl
theorem opsN_len (T : List Tok) (m p : Nat) : (opsN T m p).length = m:=by simp [opsN]
def kOpd : Ctr := pur (fun args=>(decTok (aR args 0),(aI args 1).toNat)) (fun x=>[.sl 3 (x.1.map encTok),.v (.int .i64 (x.2 : Nat))]) (fun x=>smToks x.1 ∧ 0 ≤ exprEnd x.1 x.2) (fun d _=>.own d) (fun d x=>[(d,.sl 3 1 ((opsAt x.1 x.2).map encI))])
section
attribute [local irreducible] smToks
noncomputable def cxOpdI := mkX [(119,kEnd),(120,kArity)] (COk.cons cEndI (COk.cons cArityI (COk.nil _)))
theorem cxOpdI_t : cxOpdI.tys = tys := rfl
theorem cxOpdI_c : cxOpdI.C = [(119,kEnd),(120,kArity)] := rfl
attribute [local go_sem] cxOpdI_t cxOpdI_c kEnd kArity
theorem cOpdI : Cn Try.prog 112 kOpd := by
 refine Cn.pur Try.func112 (by kernel_rfl) rfl fun d x hx=>?_
 obtain ⟨T,a⟩ := x
 obtain ⟨hsm,hvld⟩ := hx
 simp only at hsm hvld ⊢
 obtain ⟨t,ht,hat,htok,hva⟩ := vld_args hvld
 have hta : T[a] = t:=by rw [List.getElem?_eq_getElem hat] at ht; exact Option.some.inj ht
 have h2 := rowAt_map encTok T a hat
 rw [hta] at h2
 have hsl : T.length ≤ 1048576:=by unfold smToks at hsm; exact hsm.1
 have hst : smTok t:=by unfold smToks at hsm; exact hsm.2 t (hta ▸ List.getElem_mem hat)
 have har : arity t = (arN t : Nat) := if_pos htok
 have hm4 := arN_le htok
 have hnl : ¬ exprEnd T (a : Nat) < 0:=by omega
 have hai : (a : Int) < T.length:=by omega
 have hop : opsAt T a = opsN T (arN t) (a + 1):=by unfold opsAt; rw [ht]
 obtain ⟨tk,tn,tm⟩ := t
 rw [encTok] at h2
 simp only at h2 har
 refine Holds.go (c := cxOpdI) Try.func112 rfl Try.results112 Try.ntmps112 (by omega) (by simp) rfl ?_
 intro X0 w0
 rw [hop]
 generalize hm : arN ⟨tk,tn,tm⟩ = m at *
 (repeat' (first|apply zS|apply zB|((first|apply zR|apply zC|apply zT|apply zE|apply zK);simp only [go_sem,hnl,hai,h2,har])|apply And.intro|intro _))
 all_goals first|omega|rfl|exact hsm|exact hst|skip
 refine zL (fun j : Nat=>⟨[(0,.sl 3 (T.map encTok)),(5,.own 12),(6,.v (.int .i64 (ends T j (a + 1) : Nat))),(7,.v (.int .i64 ((m : Int) - j)))],[(12,.sl 3 1 ((opsN T j (a + 1)).map encI))]⟩)
  (fun j=>j ≤ m ∧ Vld T (m - j) (ends T j (a + 1)) (nxt T a)) (fun j=>m - j) 0 ?_ ?_ ?_
 ·exact ⟨by omega,hva⟩
 ·(simp only [go_sem,ends,opsN,List.range_zero,List.map_nil] <;> (first|(and_intros <;> rfl)|simp))
 rintro j ⟨hj,hV⟩
 by_cases hjm : j < m
 ·have hji : (0 : Int) < (m : Int) - j:=by omega
  obtain ⟨m',hm'⟩ : ∃ m',m - j = m' + 1 := ⟨m - j - 1,by omega⟩
  rw [hm'] at hV
  obtain ⟨hpl,hpv,hV2⟩ := hV.step
  have hmj : (m : Int) - j - 1 = (m : Int) - (j + 1):=by omega
  have hes := ends_succ T j (a + 1)
  have hon := opsN_succ T j (a + 1)
  have hol := opsN_len T j (a + 1)
  have hen := exprEnd_nxt hpv
  generalize ends T j (a + 1) = p at *
  generalize opsN T j (a + 1) = W at *
  (repeat' (first|apply zS|apply zB|((first|apply zR|apply zC|apply zT|apply zE|apply zK);simp only [go_sem,hji,hen])|apply And.intro|intro _))
  all_goals first|omega|rfl|exact hsm|skip
  all_goals first|exact ⟨j + 1,⟨by omega,by rw [show m - (j + 1) = m' by omega,hes]; exact hV2⟩,by omega,by simp only [hes,hmj,hon,Int.natCast_add,Int.cast_ofNat_Int,List.map_append,List.map_cons,List.map_nil,encI]; (first|(and_intros <;> rfl)|simp)⟩|trace_state
 ·have hge : ¬ (0 : Int) < (m : Int) - j:=by omega
  obtain rfl : j = m:=by omega
  (repeat' (first|apply zS|apply zB|((first|apply zR|apply zC|apply zT|apply zE|apply zK);simp only [go_sem,hge])|apply And.intro|intro _))
  all_goals first|omega|rfl|skip
end
end Go.Proofs.Ytjjbcoigaejoaaa

