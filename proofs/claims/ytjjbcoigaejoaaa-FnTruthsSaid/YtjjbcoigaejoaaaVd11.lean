/-
  DERIVED. Several texts of ours in one: VtTru, VcFd, VtVcn, VtTot, VcFw, VtTrsL.
-/
import Derived.Test.YtjjbcoigaejoaaaVd0
import Derived.Test.YtjjbcoigaejoaaaVd1
import Derived.Test.YtjjbcoigaejoaaaVd2
import Derived.Test.YtjjbcoigaejoaaaVd3
import Derived.Test.YtjjbcoigaejoaaaVd4
import Derived.Test.YtjjbcoigaejoaaaVd5
import Derived.Test.YtjjbcoigaejoaaaVd6
import Derived.Test.YtjjbcoigaejoaaaVd7
import Derived.Test.YtjjbcoigaejoaaaVd8
import Derived.Test.YtjjbcoigaejoaaaVd9
import Derived.Test.YtjjbcoigaejoaaaVd10
set_option linter.unusedSimpArgs false
set_option linter.unusedVariables false
set_option maxHeartbeats 1000000
set_option maxRecDepth 10000
namespace Go.Proofs.Ytjjbcoigaejoaaa
open Go.Vc
attribute [local irreducible] Go.Vc.WP
attribute [local go_sem] cx0_t cx0_c
attribute [local go_sem] isV_Node isV_It decNode_enc decFrame_enc oneFrame_enc stkA oneFrame_ab oneNode_abc decI_enc prA St.ado St.adoptB St.adoptS rp isNil St.fzS addL behind decLine_enc
noncomputable def kTru : Ctr := pur (fun args=>(decLine (aR args 0),aI args 1,aI args 2)) (fun x=>[.sl 4 (x.1.map encLine),.v (.int .i64 x.2.1),.v (.int .i64 x.2.2)]) (fun x=>x.1.length ≤ 1048576 ∧ ∀ y ∈ x.1,smLine y)
 (fun d x=>.tup [.agg [.own d,.own (d + 1000)],.v (.bool (tru x.1 x.2.1 x.2.2).isSome)]) (fun d x=>[(d,.sl 139 3 (((tru x.1 x.2.1 x.2.2).getD ([],[])).1.map encNode)),(d + 1000,.sl 3 1 (((tru x.1 x.2.1 x.2.2).getD ([],[])).2.map encI))])
theorem tru_no {P : List Line} {l n : Int} (h : ¬ ((interp P l).2.2.2 = 0 ∧ 1 ≤ n ∧ n ≤ 3)) : tru P l n = none := if_neg h
theorem tru_go {P : List Line} {l n : Int} (h : (interp P l).2.2.2 = 0 ∧ 1 ≤ n ∧ n ≤ 3) : tru P l n = trGo (vstk P l) n ([],[]) := if_pos h
section
attribute [local irreducible] smLine
noncomputable def cxTruI := mkX [(14,kVst),(35,k60),(36,kAddStack)] (COk.cons cVstI (COk.cons c60 (COk.cons cAddStackI (COk.nil _))))
theorem cxTruI_t : cxTruI.tys = tys := rfl
theorem cxTruI_c : cxTruI.C = [(14,kVst),(35,k60),(36,kAddStack)] := rfl
attribute [local go_sem] cxTruI_t cxTruI_c kVst k60 kAddStack
set_option maxHeartbeats 4000000
theorem cTruI : Cn Try.prog 16 kTru := by
 refine Cn.pur Try.func16 (by kernel_rfl) rfl fun d x hx=>?_
 obtain ⟨P,l,n⟩ := x
 obtain ⟨hPL,hsm⟩ := hx
 simp only at hPL hsm ⊢
 have hSt := vstk_ok P l
 refine Holds.go (c := cxTruI) Try.func16 rfl Try.results16 Try.ntmps16 (by omega) (by simp) rfl ?_
 intro X0 w0
 by_cases hc : (interp P l).2.2.2 = 0
 rotate_left
 ·have hno : tru P l n = none := tru_no fun q=>hc q.1
  have hcF : ((interp P l).2.2.2 = 0) = False := eq_false hc
  rw [hno]
  (repeat' (first|apply zS|apply zB|((first|apply zR|apply zC|apply zT|apply zE|apply zK);simp only [go_sem,hcF])|apply And.intro|intro _))
  all_goals first|omega|rfl|exact hPL|exact hsm _ ‹_›|exact ⟨_,_,rfl,_,_,rfl,rfl⟩|exact ⟨_,_,rfl⟩|exact ⟨_,_,if_neg (by omega)⟩|exact if_neg (by omega)|skip
 have hcT : ((interp P l).2.2.2 = 0) = True := eq_true hc
 by_cases hn : 1 ≤ n ∧ n ≤ 3
 rotate_left
 ·have hno : tru P l n = none := tru_no fun q=>hn q.2
  have hnF : (1 ≤ n ∧ n ≤ 3) = False := eq_false hn
  rw [hno]
  (repeat' (first|apply zS|apply zB|((first|apply zR|apply zC|apply zT|apply zE|apply zK);simp only [go_sem,hcT,hnF])|apply And.intro|intro _))
  all_goals first|omega|rfl|exact hPL|exact hsm _ ‹_›|exact ⟨_,_,rfl,_,_,rfl,rfl⟩|exact ⟨_,_,rfl⟩|exact ⟨_,_,if_neg (by omega)⟩|exact if_neg (by omega)|skip
 have hnT : (1 ≤ n ∧ n ≤ 3) = True := eq_true hn
 obtain ⟨n1,n3⟩ := hn
 have hgo := tru_go ⟨hc,n1,n3⟩
 (repeat' (first|apply zS|apply zB|((first|apply zR|apply zC|apply zT|apply zE|apply zK);simp only [go_sem,hcT,hnT])|apply And.intro|intro _))
 all_goals first|omega|rfl|exact hPL|exact hsm _ ‹_›|skip
 refine zP [18] [] rfl ?_
 simp only [go_sem]
 rw [hgo]
 generalize vstk P l = S at *
 have hSl := hSt.len
 refine zA [.b 10 0 40 139 3,.b 10 1 1040 3 1] ?_
 refine zL (fun q : Nat × PrT=>⟨[(2,.v (.int .i64 n)),(6,.ptr 6 0 0 0),(10,.ptr 10 0 0 0),(30,.sl 1 (S.map encFS)),(31,.v (.int .i64 (S.length : Nat))),(32,.v (.int .i64 (q.1 : Nat)))],
  [(6,.box 45 [.v (.slice none 0 0),.v (.slice none 0 0)]),(10,.box 45 [.own 40,.own 1040]),(40,.sl 139 3 (q.2.1.map encNode)),(1040,.sl 3 1 (q.2.2.map encI))]⟩)
  (fun q=>q.1 ≤ S.length ∧ TrI S n q.1 q.2 ∧ trGo S n ([],[]) = trGo (S.drop q.1) n q.2) (fun q=>S.length - q.1) (0,[],[]) ⟨by simp,TrI.zero _ _,rfl⟩ ?_ ?_
 ·(simp only [go_sem] <;> (first|(and_intros <;> rfl)|simp))
 rintro ⟨k,N,C⟩ ⟨hk,hI,hG⟩
 refine zP [] [(40,60),(1040,1060)] rfl ?_
 simp only at hk hI hG ⊢
 have h2 := hI.len
 have h3 := hI.lenC
 have h4 := hI.names
 simp only at h2 h3 h4
 have hnb : ∀ x ∈ N,x.name.size ≤ 1099511627776 := fun x hx=>by have := h4 x hx; omega
 by_cases hlt : k < S.length
 ·have hli : (k : Int) < (S.length : Nat):=by omega
  have h1 := rowAt_map encFS S k hlt
  rw [encFS] at h1
  obtain ⟨f1,f2,f3,f4⟩ := hSt.st _ (List.getElem_mem hlt)
  obtain ⟨hb,hI2⟩ := hI.next hSt n1 n3 hlt
  rw [List.drop_eq_getElem_cons hlt,trGo,if_pos hb] at hG
  simp only at hb hI2 hG
  have hfb : ∀ g ∈ S[k],g.name.size ≤ 1099511627776 := fun g hg=>by have := f4 g hg; omega
  generalize S[k] = F at h1 f1 f2 f3 f4 hb hI2 hG hfb
  (repeat' (first|apply zS|apply zB|((first|apply zR|apply zC|apply zT|apply zE|apply zK);simp only [go_sem,hli,h1,hb])|apply And.intro|intro _))
  all_goals first|omega|rfl|exact hnb _ ‹_›|exact hfb _ ‹_›|exact ⟨_,_,_,rfl⟩|exact ⟨_,_,rfl,_,_,rfl,rfl⟩|(simp only; omega)|skip
  all_goals first|exact ⟨(k + 1,(addStack N C F n).1),⟨by simp only; omega,hI2,hG⟩,by simp only; omega,rfl,rfl,rfl⟩|trace_state
 ·have hge : ¬ (k : Int) < (S.length : Nat):=by omega
  have he : trGo S n ([],[]) = some (N,C):=by rw [hG,List.drop_of_length_le (by omega)]; rfl
  rw [he]
  (repeat' (first|apply zS|apply zB|((first|apply zR|apply zC|apply zT|apply zE|apply zK);simp only [go_sem,hge])|apply And.intro|intro _))
  all_goals first|omega|rfl|exact ⟨_,_,rfl,_,_,rfl,rfl⟩|exact if_neg (by omega)|skip
end
section
attribute [local irreducible] smLine
attribute [local go_sem] kVst k60
set_option maxHeartbeats 4000000
end
end Go.Proofs.Ytjjbcoigaejoaaa

namespace Go.Vc
section
variable {c : Cx} {N : Nat} {X0 : Nat → Prop} {M : Nat → BV → Prop} {w0 : World} {st : St} {K : Exit → St → Prop}
def FieldAt (P : Program) (T f n k : Nat) : Prop := ∀ (us : List Value) (w : World),us.length = n → ∃ u,us[k]? = some u ∧ (Instr.field T (.agg us.toArray) f).run P w = .ok u w
theorem WP.regionFd6 {id T f x d t1 : Nat} {p1 : String} {a1 : Array Edge} {o1 o2 o3 o5 o6 : Oper} (n k : Nat) (hf : FieldAt c.P T f n k)
  (h : St.runR c.tys c.C N #[o1,o2,o3,⟨some d,.field T (.tmp x) f,t1,p1,a1,none⟩,o5,o6] [o1,o2,o3] st fun st' =>
   match st'.get x with
   | .agg cs=>cs.length = n ∧ d < N ∧ (match cs[k]? with
    |some c0=>St.runR c.tys c.C N #[o1,o2,o3,⟨some d,.field T (.tmp x) f,t1,p1,a1,none⟩,o5,o6] [o5,o6] (st'.put (some d) c0) (K .normal)
    |none=>False)
   | _=>False) :
  WP c N X0 M w0 (.region id #[o1,o2,o3,⟨some d,.field T (.tmp x) f,t1,p1,a1,none⟩,o5,o6] false) st K := fun hA β a w hs =>
 wp_region_lit (l := [o1,o2,o3,⟨some d,.field T (.tmp x) f,t1,p1,a1,none⟩,o5,o6]) (runR_then hA c.hty c.hC (l2 := [⟨some d,.field T (.tmp x) f,t1,p1,a1,none⟩,o5,o6]) (fun a w ⟨st',β',h1,hsim⟩=>by
  have hR : R w (XX X0 β' st'.hp) β' (st'.get x) (a.eval (.tmp x)) := St.ev_ok hsim (.tmp x)
  simp only at h1
  cases hg : st'.get x with
  |agg cs =>
   rw [hg] at h1 hR
   obtain ⟨hn,hd,h1⟩ := h1
   cases hc : cs[k]? with
   |none=>rw [hc] at h1; exact h1.elim
   |some c0 =>
    rw [hc] at h1
    obtain ⟨us,hv,hl,hu⟩ := hR.agg_inv
    obtain ⟨u,hku,hrun⟩ := hf us w (by omega)
    have hs2 := hsim.put hd (hu k c0 u hc hku)
    unfold wpList
    rw [if_pos (by rfl)]
    refine .inl ?_
    unfold Oper.wp
    have e1 : (execOp a.eval ⟨some d,.field T (.tmp x) f,t1,p1,a1,none⟩).run c.P w = .ok (.value u) w := by
     generalize a.eval = ρ at hv
     simp [execOp,hv,hrun]
    rw [e1,Oper.upon_value]
    exact runR_sound hA c.hty c.hC (fun a w hk=>hk) [o5,o6] hs2 h1
  | _=>rw [hg] at h1; exact h1.elim) [o1,o2,o3] hs h)
end
end Go.Vc

namespace Go.Proofs.Ytjjbcoigaejoaaa
open Go.Vc
attribute [local irreducible] Go.Vc.WP
attribute [local go_sem] cx0_t cx0_c
attribute [local go_sem] decLine_enc decI_enc decVl_enc
noncomputable def kVcn : Ctr := pur (fun args=>(decLine (aR args 0),aI args 1)) (fun x=>[.sl 4 (x.1.map encLine),.v (.int .i64 x.2)]) (fun x=>x.1.length ≤ 1048576 ∧ ∀ y ∈ x.1,smLine y)
 (fun _ x=>.v (.int .i64 ((interp x.1 x.2).2.1.length : Nat))) (fun _ _=>[])
theorem fldRun : FieldAt Try.prog 39 1 4 1 := fun us w h=>by
 match us,h with
 | [a,b,c,d],_=>exact ⟨b,rfl,by kernel_rfl⟩
section
attribute [local go_sem] kInt
noncomputable def cxVcnI := mkX [(28,kInt)] (COk.cons cIntI (COk.nil _))
theorem cxVcnI_t : cxVcnI.tys = tys := rfl
theorem cxVcnI_c : cxVcnI.C = [(28,kInt)] := rfl
attribute [local go_sem] cxVcnI_t cxVcnI_c kInt
attribute [local irreducible] smLine
theorem cVcnI : Cn Try.prog 9 kVcn := by
 refine Cn.pur Try.func9 (by kernel_rfl) rfl fun d x hx=>?_
 obtain ⟨P,l⟩ := x
 obtain ⟨hPL,hsm⟩ := hx
 simp only at hPL hsm ⊢
 refine Holds.go (c := cxVcnI) Try.func9 rfl Try.results9 Try.ntmps9 (by omega) (by simp) rfl ?_
 intro X0 w0
 (repeat' ((fail_if_success refine WP.atReg (b := 1) ?_); first|apply zS|apply zB|((first|apply zR|apply zC|apply zT|apply zE|apply zK);simp only [go_sem])|apply And.intro|intro _))
 refine WP.regionFd6 4 1 fldRun ?_
 simp only [go_sem]
 (repeat' (first|apply zS|apply zB|((first|apply zR|apply zC|apply zT|apply zE|apply zK);simp only [go_sem])|apply And.intro|intro _))
 all_goals first|omega|rfl|exact hPL|exact hsm _ ‹_›|skip
end
end Go.Proofs.Ytjjbcoigaejoaaa

namespace Go.Proofs.Ytjjbcoigaejoaaa
open Go.Vc
attribute [local irreducible] Go.Vc.WP
attribute [local go_sem] cx0_t cx0_c
attribute [local go_sem] decNode_enc decFrame_enc oneFrame_enc stkA oneFrame_ab oneNode_abc decI_enc prA
def kTotal : Ctr := pur (fun args=>prA args 0) (fun x=>[.agg [.sl 3 (x.1.map encNode),.sl 1 (x.2.map encI)]]) wfP (fun _ x=>.v (.int .i64 (totalOf x.1 x.2))) (fun _ _=>[])
section
attribute [local go_sem] kPrOk
end
section
noncomputable def cxToS := mkX [(39,kPrOk)] (COk.cons cPrOkS (COk.nil _))
theorem cxToS_t : cxToS.tys = tys := rfl
theorem cxToS_c : cxToS.C = [(39,kPrOk)] := rfl
attribute [local go_sem] cxToS_t cxToS_c kPrOk
theorem cTotalS : Cn Try.prog 20 kTotal := by
 refine Cn.pur Try.func20 (by kernel_rfl) rfl fun d x hx=>?_
 obtain ⟨N,C⟩ := x
 obtain ⟨⟨hN,hs⟩,hC⟩ := hx
 simp only at hN hs hC ⊢
 refine Holds.go (c := cxToS) Try.func20 rfl Try.results20 Try.ntmps20 (by omega) (by simp) rfl ?_
 intro X0 w0
 (repeat' (first|apply zS|apply zB|((first|apply zR|apply zC|apply zT|apply zE|apply zK);simp only [go_sem])|apply And.intro|intro _))
 all_goals first|omega|(simp only; omega)|exact hs _ ‹_›|skip
 refine zL (fun k : Nat=>⟨[(1,.ptr 1 0 0 0),(3,.v (.int .i64 (C.take k).sum)),(4,.v (.bool (profileOk N C))),(5,.v (.int .i64 k))],[(1,.box 45 [.sl 3 (N.map encNode),.sl 1 (C.map encI)])]⟩)
  (fun k=>k ≤ C.length ∧ (profileOk N C = false → k = 0)) (fun k=>C.length - k) 0 (by simp) ?_ ?_
 ·(simp only [go_sem] <;> (first|(and_intros <;> rfl)|simp))
 intro k ⟨hk,hk0⟩
 cases hp : profileOk N C with
 |true =>
  have ht : totalOf N C = C.sum := if_pos hp
  have hsum := profileOk_sum hp k hk
  by_cases hlt : k < C.length
  ·have h1 := rowAt_map encI C k hlt
   have h2 := take_sum C k hlt
   have h3 := cntOk_at (profileOk_iff.1 hp).2.2 k hlt
   (repeat' (first|apply zS|apply zB|((first|apply zR|apply zC|apply zT|apply zE|apply zK);simp only [go_sem,h1,encI])|apply And.intro|intro _))
   all_goals first|omega|skip
   exact ⟨k + 1,by omega,by omega,by rw [h2]; (first|(and_intros <;> rfl)|simp)⟩
  ·rw [show k = C.length by omega,List.take_length]
   (repeat' (first|apply zS|apply zB|((first|apply zR|apply zC|apply zT|apply zE|apply zK);simp only [go_sem])|apply And.intro|intro _))
   all_goals first|omega|skip
   rw [ht]
 |false =>
  have ht : totalOf N C = 0 := if_neg (by rw [hp]; simp)
  rw [hk0 hp]
  (repeat' (first|apply zS|apply zB|((first|apply zR|apply zC|apply zT|apply zE|apply zK);simp only [go_sem,ht])|apply And.intro|intro _))
  all_goals first|omega|skip
  all_goals simp
end
end Go.Proofs.Ytjjbcoigaejoaaa

namespace Go.Vc
theorem ObR.toSlW {w : World} {X X' : Nat → Prop} {β : Nat → BV} {v : BV} {e s : Nat} {rows : List (List SV)} (h : ObR w X' β v (.sl e s rows)) (hX : ∀ b,v.ft b → ¬ X b) (hXX : ∀ b,X b → X' b) : Rp w X (.sl s rows) v.val := by
 cases h with
 |nil e s h=>subst h; exact .nil s _ _
 |sl b cap cur us hv' hh h1 h2 h3 h4 h5 h6 h7 =>
  subst hv'
  refine .sl b 0 cap us (hX b rfl) (lt_of_heap hh) h1 h4 (fun i k row c hr hc=>?_) h6 (fun i k row c hr hc=>(h7 i k row c hr hc).mono ⟨Nat.le_refl _,fun _ _ _=>rfl⟩ fun b _ h=>hXX b h)
  simp only [World.cell?,hh,Nat.zero_add]
  exact h5 i k row c hr hc
section
variable {P : Program} {f : FuncId} {args : List SV} {d e s : Nat} {rows : List (List SV)}
theorem Holds.frozenW (h : Holds P f args (.own d) [(d,.sl e s rows)]) : Holds P f args (.sl s rows) [] := by
 intro w X vs hG hX hl ha
 refine (h w X vs hG hX hl ha).mono fun en w' ⟨v,β,he,hb,hβ,hR,hO,hn⟩=>?_
 refine ⟨v,β,he,hb,hβ,?_,⟨fun id ob hi=>(by cases hi),fun i j oi oj b hi=>(by cases hi)⟩,fun id ob b hi=>(by cases hi)⟩
 have := hR.own_inv; subst this
 refine .p ((hO.1 d (.sl e s rows) (by simp [lk])).toSlW (fun b hb' hx=>?_) (fun b hx=>?_))
 ·have h1 := hn d (.sl e s rows) b (by simp [lk]) hb'
  rcases hx with hx|⟨i,o,hi,_⟩
  ·have := hX b hx; omega
  ·cases hi
 ·rcases hx with hx|⟨i,o,hi,_⟩
  ·exact .inl hx
  ·cases hi
end
theorem Cn.frozenW {P : Program} {f : FuncId} {X : Type} {dec : List SV → X} {A : X → List SV} {pre : X → Prop} {e s : Nat} {rows : X → List (List SV)}
  (h : Cn P f (Go.Vc.pur dec A pre (fun d _=>.own d) (fun d x=>[(d,.sl e s (rows x))]))) : Cn P f (Go.Vc.pur dec A pre (fun _ x=>.sl s (rows x)) (fun _ _=>[])) :=
 ⟨h.call,fun d args ha=>(h.holds d args ha).frozenW,fun _ _ _ h=>h.elim⟩
end Go.Vc

namespace Go.Proofs.Ytjjbcoigaejoaaa
open Go.Vc
attribute [local irreducible] Go.Vc.WP
attribute [local go_sem] cx0_t cx0_c
attribute [local go_sem] isV_Node isV_It isV_Frame decNode_enc decFrame_enc oneFrame_enc stkA oneFrame_ab oneNode_abc decI_enc decS_enc prA encI_inj decU_enc decLine_enc oneLine_f line_eta oneTok_f decTok_enc decVl_enc St.fzS addL behind
theorem smQ_sm {x : Line} (h : smQ x) : smLine x :=
 ⟨Nat.le_trans h.1 (by omega),⟨Nat.le_trans h.2.1.1 (by omega),fun w hw=>Nat.le_trans (h.2.1.2 w hw) (by omega)⟩,Nat.le_trans h.2.2.1 (by omega),fun t ht=>Nat.le_trans (h.2.2.2 t ht) (by omega)⟩
theorem drP_ok {b : List Int} (h1 : b.length ≤ 1048576) (h2 : ∀ z ∈ b,0 ≤ z ∧ z ≤ 255) : (∀ y ∈ drP b,smLine y) ∧ (drP b).length ≤ 1020 := by
 obtain ⟨_,hq,hl⟩ := progG_ok (newC_ok h1 h2)
 exact ⟨fun y hy=>smQ_sm (hq y hy),hl⟩
def kVFZ : Ctr := pur (fun args=>(decLine (aR args 0),decI (aR args 1))) (fun x=>[.sl 4 (x.1.map encLine),.sl 1 (x.2.map encI)]) (fun x=>x.1.length ≤ 1048576 ∧ x.2.length ≤ 1048576) (fun _ x=>.sl 2 ((vfr x.1 x.2).map encFrame)) (fun _ _=>[])
theorem cVFZ : Cn Try.prog 18 kVFZ := Cn.frozenW cVFI
section
attribute [local irreducible] smLine shLine drP
noncomputable def LcxTr : CL := [(11,kBig),(13,kAt),(12,kDrawPZ),(14,kVst),(15,kInt),(16,kTru),(9,kVcn),(18,kVFZ),(17,kSameF),(19,kCountOf),(20,kTotal)]
noncomputable def cxTr := mkX LcxTr (COk.cons cBig (COk.cons cAt (COk.cons cDrawPZ (COk.cons cVstI (COk.cons cIntS (COk.cons cTruI (COk.cons cVcnI (COk.cons cVFZ (COk.cons cSameF (COk.cons cCountS (COk.cons cTotalS (COk.nil _))))))))))))
theorem cxTr_t : cxTr.tys = tys := rfl
theorem cxTr_c : cxTr.C = LcxTr := rfl
attribute [local go_sem] cxTr_t cxTr_c LcxTr kBig kAt kDrawPZ kVst kInt kTru kVcn kVFZ kSameF kCountOf kTotal
set_option maxHeartbeats 8000000 in
theorem lawTruths (b : List Int) (hb : b.length ≤ maxLen) (hz : ∀ z ∈ b,IntKind.u8.min ≤ z ∧ z ≤ IntKind.u8.max) : Holds Try.prog 4 [.sl 1 (b.map encU)] (.v (.bool true)) [] := by
 have hm : maxLen = 9223372036854775807 := rfl
 have hz' : ∀ z ∈ b,0 ≤ z ∧ z ≤ 255 := fun z h=>hz z h
 refine Holds.go (c := cxTr) Try.func4 rfl Try.results4 Try.ntmps4 (by omega) (by simp) rfl ?_
 intro X0 w0
 by_cases hbig : 1048576 < (b.length : Int)
 ·(repeat' (first|apply zS|apply zB|((first|apply zR|apply zC|apply zT|apply zE|apply zK| refine zD 26 (by decide +kernel) (by kernel_rfl) ?_|refine zD 50 (by decide +kernel) (by kernel_rfl) ?_); simp only [go_sem,hbig])|apply And.intro|intro _))
  all_goals first|omega|(simp only; omega)|skip
 have hb1 : b.length ≤ 1048576:=by omega
 have a0 := atV_bd hz' 0
 have am : 0 ≤ (atV b 0).tmod 3 ∧ (atV b 0).tmod 3 < 3 := ⟨Int.tmod_nonneg _ a0.1,Int.tmod_lt_of_pos _ (by omega)⟩
 obtain ⟨hPs,hPl⟩ := drP_ok hb1 hz'
 generalize eP : drP b = P at *
 obtain ⟨n,hn⟩ : ∃ n,1 + (atV b 0).tmod 3 = n := ⟨_,rfl⟩
 have hn1 : 1 ≤ n:=by omega
 have hn3 : n ≤ 3:=by omega
 (repeat' ((fail_if_success refine WP.atReg (b := 8) ?_); first|apply zS|apply zB|((first|apply zR|apply zC|apply zT|apply zE|apply zK| refine zD 26 (by decide +kernel) (by kernel_rfl) ?_|refine zD 50 (by decide +kernel) (by kernel_rfl) ?_); simp only [go_sem,hbig,eP,hn])|apply And.intro|intro _))
 all_goals first|omega|(simp only; omega)|exact (hz' _ ‹_›).1|exact (hz' _ ‹_›).2|exact hPs _ ‹_›|skip
 refine zP [21,25,1025,29,1029] [] rfl ?_
 simp only [go_sem]
 have hS : vstk P 60 = (interp P 60).2.1.map (vfr P) := rfl
 have hok := tru_iff P 60 n
 have hat := fun t (h : tru P 60 n = some t)=>(tru_at h).2.2
 obtain ⟨hgv,hvl⟩ := interp_vis P 60
 have hst := vstk_ok P 60
 have hpg : (interp P 60).2.1 ≠ [] → ProgS P := fun h=>by
  by_cases hp : progOk P = true
  ·exact progOk_iff.1 hp
  ·exfalso; apply h
   unfold interp; rw [if_neg fun q=>hp q.1]
 generalize vstk P 60 = S at *
 generalize tru P 60 n = T at *
 generalize hV : (interp P 60).2.1 = V at *
 generalize (interp P 60).2.2.1 = vv at *
 generalize (interp P 60).2.2.2 = cc at *
 generalize (interp P 60).1 = oo at *
 have hSV : S.length = V.length:=by rw [hS,List.length_map]
 have hdone : T.isSome = decide (cc = 0):=by rw [hok]; simp [hn1,hn3]
 have hSVi : (S.length : Int) = (V.length : Nat):=by rw [hSV]
 have hnS : 0 ≤ n * (S.length : Int) ∧ n * (S.length : Int) ≤ 3000 := by
  have h1 : n * (S.length : Int) ≤ 3 * (S.length : Int) := Int.mul_le_mul_of_nonneg_right hn3 (by omega)
  have h2 := Int.mul_nonneg (show 0 ≤ n by omega) (show 0 ≤ (S.length : Int) by omega)
  have h3 := hst.len
  omega
 have hTl : (T.getD ([],[])).1.length ≤ 7000 ∧ (T.getD ([],[])).2.length ≤ 7000 ∧ ∀ x ∈ (T.getD ([],[])).1,x.name.size ≤ 1099511627776 := by
  cases hT : T with
  |none=>simp
  |some t =>
   have h1 := (hat t hT).len
   have h2 := (hat t hT).lenC
   have h3 := hst.len
   exact ⟨by simp only [Option.getD_some]; omega,by simp only [Option.getD_some]; omega,fun x hx=>Nat.le_trans ((hat t hT).names x hx) (by decide)⟩
 have htot : cc = 0 → totalOf (T.getD ([],[])).1 (T.getD ([],[])).2 = n * (S.length : Int) := fun h=>by
  cases hT : T with
  |none=>rw [hT] at hdone; simp [h] at hdone
  |some t =>
   have := hat t hT
   show totalOf t.1 t.2 = _
   unfold totalOf
   rw [if_pos this.ok,this.sum]
 have hcnt : cc = 0 → ∀ k (hk : k < S.length),n ≤ countOf (T.getD ([],[])).1 (T.getD ([],[])).2 S[k] := fun h k hk=>by
  cases hT : T with
  |none=>rw [hT] at hdone; simp [h] at hdone
  |some t =>
   have hI := hat t hT
   obtain ⟨q,q1,q2,q3⟩ := hI.cnt k hk hk
   have hs := (profileOk_iff.1 hI.ok).1
   have hf : findS t.1 S[k] = (q : Int):=by unfold findS; rw [if_pos hs,q1]
   show n ≤ countOf t.1 t.2 S[k]
   unfold countOf
   rw [hf,if_neg (by rw [hI.ok]; simp),Int.toNat_natCast]
   exact q3
 generalize T.getD ([],[]) = t at *
 obtain ⟨N,C⟩ := t
 simp only at hTl htot hcnt
 obtain ⟨hN,hCl,hnm⟩ := hTl
 generalize T.isSome = B at *
 subst hdone
 clear hok hat
 have hmainB : mainB = ⟨#[109,97,105,110]⟩ := rfl
 have hbe : (cc == 0) = decide (cc = 0) := rfl
 (repeat' ((fail_if_success refine WP.atReg (b := 10) ?_); first|apply zS|apply zB|((first|apply zR|apply zC|apply zT|apply zE|apply zK| refine zD 26 (by decide +kernel) (by kernel_rfl) ?_|refine zD 50 (by decide +kernel) (by kernel_rfl) ?_); simp only [go_sem,hSVi,hV,hbe])|apply And.intro|intro _))
 all_goals first|omega|(simp only; omega)|exact hPs _ ‹_›|exact hnm _ ‹_›|skip
 (repeat' (first|apply zS|apply zB|((first|apply zR|apply zC|apply zT|apply zE|apply zK| refine zD 26 (by decide +kernel) (by kernel_rfl) ?_|refine zD 50 (by decide +kernel) (by kernel_rfl) ?_); simp only [go_sem])|apply And.intro|intro _))
 refine zL (fun k : Nat=>⟨[(3,.sl 4 (P.map encLine)),(4,.v (.int .i64 n)),(5,.sl 1 (S.map encFS)),(7,.ptr 7 0 0 0),(8,.ptr 8 0 0 0),(9,.v (.bool (decide (cc = 0)))),(10,.v (.int .i64 (k : Nat)))],
  [(8,.box 45 [.sl 3 (N.map encNode),.sl 1 (C.map encI)]),(7,.box 39 [.sl 1 (oo.map encI),.sl 1 (V.map encVl),.v (.int .i64 vv),.v (.int .i64 cc)])]⟩) (fun k=>k ≤ S.length) (fun k=>S.length - k) 0 (Nat.zero_le _) ?_ ?_
 ·(simp only [go_sem] <;> (first|(and_intros <;> rfl)|simp))
 intro k hk
 by_cases hlt : k < S.length
 ·have hli : (k : Int) < (S.length : Nat):=by omega
  have hlv : (k : Int) < (V.length : Nat):=by omega
  have hkV : k < V.length:=by omega
  have h1 := rowAt_map encFS S k hlt
  have h2 := rowAt_map encVl V k hkV
  have hSk : S[k] = vfr P V[k]:=by simp only [hS,List.getElem_map]
  have hg := hgv _ (List.getElem_mem hkV)
  obtain ⟨g1,g2,g3,g4,f,R,g5,g6⟩ := hg.st (hpg (fun e=>by rw [e] at hkV; exact absurd hkV (by simp)))
  have h7 := hg.len
  rw [encFS,hSk] at h1
  have hck : cc = 0 → n ≤ countOf N C (vfr P V[k]) := fun h=>by have := hcnt h k hlt; rwa [hSk] at this
  generalize V[k] = v at *
  generalize eF : vfr P v = F at *
  rw [encVl] at h2
  have hFl : (0 : Int) < (F.length : Nat):=by rw [g5]; simp
  have hr0 : Go.Vc.rowAt (F.map encFrame) 0 = [.v (.string ⟨#[109,97,105,110]⟩),.v (.int .i64 f.line)] := by
   rw [g5]
   show encFrame f = _
   rw [encFrame,g6,hmainB]
  have hF1 : F.length ≤ 1048576:=by omega
  have hlen : (F.length : Int) = (v.length : Nat):=by omega
  by_cases h0 : cc = 0
  ·have hcT : (cc = 0) = True := eq_true h0
   have hge : ¬ countOf N C F < n:=by have := hck h0; omega
   (repeat' (first|apply zS|apply zB|((first|apply zR|apply zC|apply zT|apply zE|apply zK| refine zD 26 (by decide +kernel) (by kernel_rfl) ?_|refine zD 50 (by decide +kernel) (by kernel_rfl) ?_); simp only [go_sem,hli,hlv,h1,h2,hlen,eF,hFl,hr0,hcT,hge])|apply And.intro|intro _))
   all_goals first|omega|rfl|(simp only; omega)|exact hPs _ ‹_›|exact hnm _ ‹_›|exact ⟨k + 1,by omega,by omega,by (first|(and_intros <;> rfl)|simp)⟩|skip
  ·have hcF : (cc = 0) = False := eq_false h0
   (repeat' (first|apply zS|apply zB|((first|apply zR|apply zC|apply zT|apply zE|apply zK| refine zD 26 (by decide +kernel) (by kernel_rfl) ?_|refine zD 50 (by decide +kernel) (by kernel_rfl) ?_); simp only [go_sem,hli,hlv,h1,h2,hlen,eF,hFl,hr0,hcF])|apply And.intro|intro _))
   all_goals first|omega|rfl|(simp only; omega)|exact hPs _ ‹_›|exact hnm _ ‹_›|exact ⟨k + 1,by omega,by omega,by (first|(and_intros <;> rfl)|simp)⟩|skip
 ·have hge : ¬ (k : Int) < (S.length : Nat):=by omega
  by_cases h0 : cc = 0
  ·have hcT : (cc = 0) = True := eq_true h0
   have ht := htot h0
   (repeat' (first|apply zS|apply zB|((first|apply zR|apply zC|apply zT|apply zE|apply zK| refine zD 26 (by decide +kernel) (by kernel_rfl) ?_|refine zD 50 (by decide +kernel) (by kernel_rfl) ?_); simp only [go_sem,hge,hcT,ht])|apply And.intro|intro _))
   all_goals first|omega|rfl|(simp only; omega)|exact hPs _ ‹_›|exact hnm _ ‹_›|skip
  ·have hcF : (cc = 0) = False := eq_false h0
   (repeat' (first|apply zS|apply zB|((first|apply zR|apply zC|apply zT|apply zE|apply zK| refine zD 26 (by decide +kernel) (by kernel_rfl) ?_|refine zD 50 (by decide +kernel) (by kernel_rfl) ?_); simp only [go_sem,hge,hcF])|apply And.intro|intro _))
   all_goals first|omega|rfl|(simp only; omega)|exact hPs _ ‹_›|exact hnm _ ‹_›|skip
end
end Go.Proofs.Ytjjbcoigaejoaaa

