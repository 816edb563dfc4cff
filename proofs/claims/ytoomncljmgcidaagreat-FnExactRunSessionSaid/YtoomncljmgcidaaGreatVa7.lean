/-
  DERIVED. Several texts of ours in one: VtMcJ, VtMcQ, VcSg, VtMcQ1.
-/
import Derived.Test.YtoomncljmgcidaaGreatVa5
import Derived.Test.YtoomncljmgcidaaGreatVa6
set_option linter.unusedSimpArgs false
set_option linter.unusedVariables false
set_option maxHeartbeats 1000000
set_option maxRecDepth 10000
namespace Go.Proofs.YtoomncljmgcidaaGreat
open Go.Vc
attribute [local irreducible] Go.Vc.WP
attribute [local go_sem] cx0_t cx0_c
attribute [local go_sem] decI_enc cpu_eta bxI obIm decIm
theorem pushI_sp {s : CpB} (h : In64 s.1.sp) (x : Int) : In64 (pushI s x).1.sp := by
 unfold pushI
 split
 ·exact h
 ·rename_i hb
  have hc : 0 ≤ w64 (s.1.sp - 1) ∧ w64 (s.1.sp - 1) ≤ 1199 := by
   by_cases hc : 0 ≤ w64 (s.1.sp - 1) ∧ w64 (s.1.sp - 1) ≤ 1199
   ·exact hc
   ·exact absurd (atI_bad.2 (.inr hc)) hb
  have := (w64_sub h).1 hc
  show In64 (s.1.sp - 1)
  unfold In64; omega
theorem zerosI_sp {s : CpB} (h : In64 s.1.sp) : ∀ n,In64 (zerosI s n).1.sp
 | 0=>h
 |n + 1=>pushI_sp (zerosI_sp h n) 0
def kZeroI : Ctr := len [0] [] (fun args obs=>(decIm obs,aI args 1)) (fun x=>[.ptr 1000000 0 0 0,.v (.int .i64 x.2)]) (fun x=>obIm x.1) (fun x=>x.1.1.1.st.length = 1200 ∧ In64 x.1.1.1.sp ∧ x.2 ≤ 4294967295)
 (fun _ _=>.tup []) (fun _ _=>[]) (fun x=>obIm (zerosI x.1.1 x.2.toNat,x.1.2))
section
noncomputable def cxZrI := mkX [(145,kPushI)] (COk.cons cPushI (COk.nil _))
theorem cxZrI_t : cxZrI.tys = tys := rfl
theorem cxZrI_c : cxZrI.C = [(145,kPushI)] := rfl
attribute [local go_sem] cxZrI_t cxZrI_c kPushI
attribute [local go_sem] kPushI
theorem cZeroI : Cn Tryz.prog 150 kZeroI := by
 refine Cn.len Tryz.func150 (by kernel_rfl) rfl fun d x hd hx=>?_
 obtain ⟨⟨s,q,v⟩,n⟩ := x
 obtain ⟨hx,h6,hn⟩ := hx
 simp only at hx h6 hn ⊢
 unfold obIm bxI
 refine HoldsL.go (c := cxZrI) Tryz.func150 rfl Tryz.results150 Tryz.ntmps150 (by omega) (by simp) rfl (by simp <;> omega) (by simp [SV.owns2,SV.owns,SV.owns1]) (by simp) rfl rfl (by simp) ?_
 intro X0 M w0
 (repeat' (first|apply zS|apply zB|((first|apply zR|apply zC|apply zT|apply zE|apply zK);simp only [go_sem])|apply And.intro|intro _))
 refine zL (fun k : Nat=>⟨[(0,.ptr 1000000 0 0 0),(1,.v (.int .i64 (n - (k : Nat))))],obIm (zerosI s k,q,v)⟩) (fun k=>k ≤ n.toNat) (fun k=>n.toNat - k) 0 (by simp) ?_ ?_
 ·(simp only [go_sem,zerosI] <;> (first|(and_intros <;> rfl)|simp))
 intro k hk
 have hl : (zerosI s k).1.st.length = 1200:=by rw [zerosI_len]; exact hx
 have h7 : -9223372036854775808 ≤ (zerosI s k).1.sp ∧ (zerosI s k).1.sp ≤ 9223372036854775807 := zerosI_sp h6 k
 by_cases hlt : 0 < n - (k : Int)
 ·have he : n - (k : Int) - 1 = n - (k + 1 : Nat):=by omega
  (repeat' (first|apply zS|apply zB|((first|apply zR|apply zC|apply zT|apply zE|apply zK);simp only [go_sem,hlt])|apply And.intro|intro _))
  all_goals first|omega|exact hl|exact ⟨hl,h7⟩|rfl|exact ⟨k + 1,by omega,by omega,by rw [← he]; (first|(and_intros <;> rfl)|simp)⟩|skip
 ·obtain rfl : k = n.toNat:=by omega
  (repeat' (first|apply zS|apply zB|((first|apply zR|apply zC|apply zT|apply zE|apply zK);simp only [go_sem,hlt])|apply And.intro|intro _))
  all_goals first|omega|exact hl|rfl|skip
end
end Go.Proofs.YtoomncljmgcidaaGreat

namespace Go.Proofs.YtoomncljmgcidaaGreat
open Go.Vc
attribute [local irreducible] Go.Vc.WP
attribute [local go_sem] cx0_t cx0_c
attribute [local go_sem] decI_enc decImage_enc spA cpu_eta bxI headsBy innersBy llX lmX St.callX St.panOf St.callLG ctrs St.isX St.stepP runS retY St.fzS addL behind ghoK St.gho St.gh SV.flat St.setO Ob.jk SV.jk
def decD0 (obs : List (Nat × Ob)) : CuX := match oC obs 1000001,oC obs 1000000 with
 | [.v (.int _ a),.v (.int _ b),.v (.int _ c),_,_,.v (.int _ s),.v (.int _ v)],[_,.v (.bool g)]=>((⟨a,b,c,decI (oR obs 900000),decI (oR obs 900001)⟩,g),s,v)
 | _,_=>((⟨0,0,0,[],[]⟩,false),0,0)
def obD0 (x : CuX) : List (Nat × Ob) := [(1000000,.box 158 [.ptr 1000001 0 0 0,.v (.bool x.1.2)]),(1000001,.box 96 (bxI x 900000 900001)),(900000,.sl 3 1 (x.1.1.st.map encI)),(900001,.sl 3 1 (x.1.1.out.map encI))]
def kpD (x : CuX) : List (Nat × Ob) := [(1000000,.box 158 [.ptr 1000001 0 0 0,.v (.bool x.1.2)]),(1000001,.box 96 (bxI x 800001 800002))]
attribute [local go_sem] opA decD0 obD0 rbC kpD yen aggSp
abbrev PiX := SpcX × CuX × Op
structure PiOk (x : PiX) : Prop where
 st : x.2.1.1.1.st.length = 1200
 out : x.2.1.1.1.out.length ≤ 8388608
 sp : 0 ≤ x.2.1.1.1.sp ∧ x.2.1.1.1.sp ≤ 1200
 pc : 0 ≤ x.2.1.1.1.pc ∧ x.2.1.1.1.pc ≤ 16777300
 good : x.2.1.1.2 = false
 op : ∃ n,OpB x.2.2 n
 en : x.1.2.2.length ≤ 4194304
 fp : In64 x.2.1.1.1.fp
def kPerfI (p : Int → Prop) : Ctx := yen [0] (fun args obs=>(spA args 1,decD0 obs,opA args 2))
 (fun x=>[.ptr 1000000 0 0 0,aggSp x.1,.agg [.v (.int .i64 x.2.2.code),.v (.int .i64 x.2.2.arg)]]) (fun x=>obD0 x.2.1) (fun x=>PiOk x ∧ p x.2.2.code) (fun _=>none)
 (fun _=>.tup []) (fun x=>rbC (performI x.1.2.2 x.2.2 x.2.1.1.1,x.2.1.2)) (fun x=>kpD (performI x.1.2.2 x.2.2 x.2.1.1.1,x.2.1.2))
theorem Cy.codesI {f : FuncId} {p q : Int → Prop} (h1 : Cy Tryz.prog f (kPerfI p)) (h2 : Cy Tryz.prog f (kPerfI q)) : Cy Tryz.prog f (kPerfI fun c=>p c ∨ q c) := ⟨h1.call,fun d args obs ha=>by
 obtain ⟨a1,a2,a3,a4⟩ := ha
 rcases a4 with a4|a4
 ·exact h1.holds d args obs ⟨a1,a2,a3,a4⟩
 ·exact h2.holds d args obs ⟨a1,a2,a3,a4⟩⟩
theorem popI_sp {s : CpB} (h : In64 s.1.sp) : In64 (popI s).2.1.sp := by
 unfold popI
 split
 ·exact h
 ·rename_i hb
  have hc : 0 ≤ s.1.sp ∧ s.1.sp ≤ 1199 := by
   by_cases hc : 0 ≤ s.1.sp ∧ s.1.sp ≤ 1199
   ·exact hc
   ·exact absurd (atI_bad.2 (.inr hc)) hb
  show In64 (s.1.sp + 1)
  unfold In64; omega
theorem dropI_sp {s : CpB} (h : In64 s.1.sp) : ∀ n,In64 (dropI s n).1.sp
 | 0=>h
 |n + 1=>popI_sp (dropI_sp h n)
section
noncomputable def LcxPfI : CL := [(145,kPushI),(146,kLoadI),(147,kStoreI),(148,kPopI),(150,kZeroI),(151,kDropI),(149,kAppl)]
noncomputable def cxPfI := mkX LcxPfI (COk.cons cPushI (COk.cons cLoadI (COk.cons cStoreI (COk.cons cPopI (COk.cons cZeroI (COk.cons cDropI (COk.cons cApplI (COk.nil _))))))))
theorem cxPfI_t : cxPfI.tys = tys := rfl
theorem cxPfI_c : cxPfI.C = LcxPfI := rfl
attribute [local go_sem] cxPfI_t cxPfI_c LcxPfI kPushI kLoadI kStoreI kPopI kZeroI kDropI kAppl
end
end Go.Proofs.YtoomncljmgcidaaGreat

namespace Go.Vc
structure Sg where
 chk : List Nat
 flo : List Nat
 cr : List (Nat × Nat)
 op : Nat
inductive Pl where
 |last (sg : Sg)
 |call (sg : Sg) (r : Pl)
 |fork (sg : Sg) (j : Nat) (a b : Pl)
def Pl.sg : Pl → Sg
 | .last sg=>sg
 | .call sg _=>sg
 | .fork sg _ _ _=>sg
def Pl.opn : Pl → Option Nat
 | .last _=>none
 | .call sg _=>some sg.op
 | .fork sg _ _ _=>some sg.op
def St.drp (st : St) (ds : List Nat) : St := { st with fr := st.fr.filter fun p=>!ds.contains p.1 }
def St.bck (T U : St) (ds : List Nat) : St := { T with fr := (ds.map fun d=>(d,U.get d)) ++ T.fr }
def SV.ptrTo (id : Nat) : SV → Bool
 | .ptr i _ _ _=>i == id
 | _=>false
def St.crOk (U T : St) (ds : List Nat) (dst : Option Nat) (d t : Nat) : Prop := match U.get d with
 | .v _=>True
 | .ptr id _ _ _=>ds.contains t = false ∧ (dst != some t) = true ∧ (U.get t).ptrTo id = true ∧ (T.get t).ptrTo id = true
 | _=>False
def St.crAll (U T : St) (ds : List Nat) (dst : Option Nat) (l : List Oper) : List (Nat × Nat) → Prop
 | []=>True
 | (i,t) :: r=>(match (l[i]?).bind (·.dst) with
  |some d=>U.crOk T ds dst d t
  |none=>False) ∧ St.crAll U T ds dst l r
def dstsL (l : List Oper) : List (Nat × Nat) → List Nat
 | []=>[]
 | (i,_) :: r=>match (l[i]?).bind (·.dst) with
  |some d=>d :: dstsL l r
  |none=>dstsL l r
def runFl (W : Oper → St → (SV → Prop) → Prop) (l : List Oper) : List Nat → St → (St → Prop) → Prop
 | [],st,K=>K st
 |i :: r,st,K=>match l[i]? with
  |some o=>W o st fun x=>runFl W l r (st.put o.dst x) K
  |none=>False
def chkQ (W : Oper → St → (SV → Prop) → Prop) (l : List Oper) (U : St) : List Nat → Prop
 | []=>True
 |i :: r=>(match l[i]? with
  |some o=>match o.dst with
   |some d=>W o U fun x=>lk d U.fr = some x
   |none=>False
  |none=>False) ∧ chkQ W l U r
def callQ (stp : Oper → St → (St → Prop) → Prop) (l : List Oper) (sg : Sg) (js : List (Nat × Nat)) (U : St) (k : St → Prop) : Prop := match l[sg.op]? with
 |some o=>stp o (U.drp (dstsL l (js ++ sg.cr))) fun T=>U.crAll T (dstsL l (js ++ sg.cr)) o.dst l sg.cr ∧ k (T.bck U (dstsL l sg.cr))
 |none=>False
def runQ (W : Oper → St → (SV → Prop) → Prop) (stp : Oper → St → (St → Prop) → Prop) (l : List Oper) : Pl → St → (St → Prop) → Prop
 | .last sg,st,K=>runFl W l sg.flo st fun U=>chkQ W l U sg.chk ∧ K U
 | .call sg r,st,K=>runFl W l sg.flo st fun U=>chkQ W l U sg.chk ∧ callQ stp l sg [] U fun T=>runQ W stp l r T K
 | .fork sg j a b,st,K=>runFl W l sg.flo st fun U=>chkQ W l U sg.chk ∧ callQ stp l sg [] U (fun T=>runQ W stp l a T K) ∧ callQ stp l sg [(j,0)] U (fun T=>runQ W stp l b T K)
def ancM (ops : Array Oper) (i j : Nat) : Bool := ((ancRows ops ops.size).getD i []).getD j false
theorem ancM_at {ops : Array Oper} {i j : Nat} (h : ancM ops i j = true) : Anc ops i j := ancRows_at ops ops.size i j h
def floB (ops : Array Oper) : List Nat → Bool
 | []=>true
 |i :: r=>(match ops[i]? with
  |some o=>match o.dst with
   |some d=>!(o.looksAt ops).contains d && r.all fun j=>match dstAt ops j with
    |some e=>e != d && !(o.looksAt ops).contains e
    |none=>false
   |none=>false
  |none=>false) && floB ops r
def lookB (ops : Array Oper) (P : List Nat) (i : Nat) : Bool := match ops[i]? with
 |some o=>(o.looksAt ops).all fun t=>P.all fun j=>!(dstAt ops j == some t) || hasEdge o j
 |none=>false
def apartB (ops : Array Oper) : List Nat → Bool
 | []=>true
 |i :: r=>(dstAt ops i).isSome && (r.all fun j=>dstAt ops j != dstAt ops i) && apartB ops r
def sgB (ops : Array Oper) (P C L : List Nat) (sg : Sg) : Bool :=
  floB ops sg.flo && apartB ops (P ++ sg.flo) && (sg.flo.all fun i=>!P.contains i && !C.contains i && decide (i < ops.size)) && (sg.chk.all fun i=>P.contains i) &&
  (P.all fun i=>sg.chk.contains i || (C.any fun c=>ancM ops c i) || L.contains i) && ((sg.chk ++ sg.flo).all (lookB ops (P ++ sg.flo)))
def sgOpB (ops : Array Oper) (P C L J : List Nat) (sg : Sg) : Bool :=
  decide (sg.op < ops.size) && !P.contains sg.op && !C.contains sg.op && (P.all fun i=>(sg.cr.map (·.1)).contains i || ancM ops sg.op i || L.contains i || J.contains i) && ((sg.cr.map (·.1)).all fun i=>P.contains i && !J.contains i) &&
   (P.all fun i=>dstAt ops i != dstAt ops sg.op) && ((List.range ops.size).all fun i=>P.contains i || C.contains i || i == sg.op || ancM ops i sg.op)
def without (P J : List Nat) : List Nat := P.filter fun i=>!J.contains i
def plB (ops : Array Oper) : List Nat → List Nat → List Nat → Pl → Bool
 |P,C,L,.last sg=>sgB ops P C L sg && (List.range ops.size).all fun i=>(P ++ sg.flo).contains i || C.contains i
 |P,C,L,.call sg r=>sgB ops P C L sg && sgOpB ops (P ++ sg.flo) C L [] sg && plB ops (without (P ++ sg.flo) []) (sg.op :: C) L r
 |P,C,L,.fork sg j a b=>sgB ops P C L sg && (P ++ sg.flo).contains j && !L.contains j &&
  (sgOpB ops (P ++ sg.flo) C (j :: L) [] sg && plB ops (without (P ++ sg.flo) []) (sg.op :: C) (j :: L) a) && (sgOpB ops (P ++ sg.flo) C L [j] sg && plB ops (without (P ++ sg.flo) [j]) (sg.op :: C) L b)
theorem plB_sg {ops : Array Oper} {P C L : List Nat} : ∀ {pl : Pl},plB ops P C L pl = true → sgB ops P C L pl.sg = true
 | .last _,h=>by unfold plB at h; rw [Bool.and_eq_true] at h; exact h.1
 | .call _ _,h=>by unfold plB at h; simp only [Bool.and_eq_true] at h; exact h.1.1
 | .fork _ _ _ _,h=>by unfold plB at h; simp only [Bool.and_eq_true] at h; exact h.1.1.1.1
def backB (ops : Array Oper) : Bool := (List.range ops.size).all fun p=>match ops[p]? with
 |none=>false
 |some o=>o.after.all fun e=>!Region.binds .any e || decide (e.on < p)
theorem backB_at {ops : Array Oper} (h : backB ops = true) {p : Nat} {o : Oper} (ho : ops[p]? = some o) : ∀ e ∈ o.after,Region.binds .any e = true → e.on < p := fun e he hb=>by
 have hp : p < ops.size := (Array.getElem?_eq_some_iff.1 ho).1
 have := List.all_eq_true.1 h p (List.mem_range.2 hp)
 rw [ho] at this
 simp only [Array.all_eq_true_iff_forall_mem] at this
 have := this e he
 rw [hb] at this
 simpa using this
theorem lk_drp (st : St) (ds : List Nat) (t : Nat) : lk t (st.drp ds).fr = if ds.contains t then none else lk t st.fr := by
 unfold St.drp
 simp only
 induction st.fr with
 |nil=>simp [lk]
 |cons p r ih =>
  obtain ⟨a,b⟩ := p
  rw [List.filter_cons]
  by_cases ha : ds.contains a = true
  ·simp only [ha,Bool.not_true,Bool.false_eq_true,if_false]
   rw [ih]
   by_cases hta : t = a
   ·subst hta; rw [if_pos ha,if_pos ha]
   ·simp only [lk,if_neg hta]
  ·rw [Bool.not_eq_true] at ha
   simp only [ha,Bool.not_false,if_true]
   by_cases hta : t = a
   ·subst hta; simp only [lk,if_true,ha,Bool.false_eq_true,if_false]
   ·simp only [lk,if_neg hta]; exact ih
theorem lk_bck (T U : St) (ds : List Nat) (t : Nat) : lk t (T.bck U ds).fr = if ds.contains t then some (U.get t) else lk t T.fr := by
 unfold St.bck
 simp only
 induction ds with
 |nil=>rfl
 |cons d r ih =>
  simp only [List.map_cons,List.cons_append,lk,List.contains_cons]
  by_cases htd : t = d
  ·subst htd; simp
  ·rw [if_neg htd,ih]
   have : (t == d) = false:=by simpa using htd
   rw [this,Bool.false_or]
theorem ptrTo_inv {x : SV} {id : Nat} (h : x.ptrTo id = true) : ∃ s i k,x = .ptr id s i k := by
 cases x with
 |ptr j s i k=>simp only [SV.ptrTo,beq_iff_eq] at h; subst h; exact ⟨s,i,k,rfl⟩
 | _=>cases h
theorem R.ptr_at {w : World} {X : Nat → Prop} {β : Nat → BV} {id s i k : Nat} {v : Value} (h : R w X β (.ptr id s i k) v) : ∃ b,blk (β id).val = some b ∧ v = .pointer (some ⟨b,i * s + k,none⟩) := by
 cases h with
 |p h=>cases h
 |ptr _ _ _ _ b hb=>exact ⟨b,hb,rfl⟩
theorem crAll_at {U T : St} {ds : List Nat} {dst : Option Nat} {ops : Array Oper} : ∀ {L : List (Nat × Nat)},U.crAll T ds dst ops.toList L → ∀ i ∈ L.map (·.1),∃ d t,dstAt ops i = some d ∧ U.crOk T ds dst d t
 | [],_,i,hi=>by cases hi
 | (j,t) :: r,h,i,hi=>by
  obtain ⟨h1,h2⟩ := h
  rcases List.mem_cons.1 hi with e|e
  ·simp only at e
   subst e
   rw [Array.getElem?_toList] at h1
   split at h1
   ·rename_i d hd; exact ⟨d,t,hd,h1⟩
   ·exact h1.elim
  ·exact crAll_at h2 i e
theorem dstsL_mem {ops : Array Oper} {t : Nat} : ∀ {L : List (Nat × Nat)},t ∈ dstsL ops.toList L ↔ ∃ i ∈ L.map (·.1),dstAt ops i = some t
 | []=>by simp [dstsL]
 | (j,q) :: r=>by
  unfold dstsL
  rw [Array.getElem?_toList]
  have ih := dstsL_mem (ops := ops) (t := t) (L := r)
  cases hd : (ops[j]?).bind (·.dst) with
  |none =>
   simp only [List.map_cons,List.mem_cons]
   rw [ih]
   constructor
   ·rintro ⟨i,hi,h⟩; exact ⟨i,.inr hi,h⟩
   ·rintro ⟨i,hi,h⟩
    rcases hi with e|e
    ·subst e; unfold dstAt at h; rw [hd] at h; cases h
    ·exact ⟨i,e,h⟩
  |some d =>
   simp only [List.map_cons,List.mem_cons]
   rw [ih]
   constructor
   ·rintro (e|⟨i,hi,h⟩)
    ·subst e; exact ⟨j,.inl rfl,hd⟩
    ·exact ⟨i,.inr hi,h⟩
   ·rintro ⟨i,hi,h⟩
    rcases hi with e|e
    ·subst e; unfold dstAt at h; rw [hd] at h; cases h; exact .inl rfl
    ·exact .inr ⟨i,e,h⟩
theorem apartB_at {ops : Array Oper} : ∀ {L : List Nat},apartB ops L = true → (∀ i ∈ L,∃ d,dstAt ops i = some d) ∧ ∀ i ∈ L,∀ j ∈ L,∀ d,dstAt ops i = some d → dstAt ops j = some d → i = j
 | [],_=>⟨fun i h=>(by cases h),fun i h=>(by cases h)⟩
 |i :: r,h=>by
  unfold apartB at h
  simp only [Bool.and_eq_true] at h
  obtain ⟨⟨h1,h2⟩,h3⟩ := h
  obtain ⟨q1,q2⟩ := apartB_at h3
  rw [List.all_eq_true] at h2
  refine ⟨fun j hj=>?_,fun j hj k hk d hd he=>?_⟩
  ·rcases List.mem_cons.1 hj with e|e
   ·subst e; exact Option.isSome_iff_exists.1 h1
   ·exact q1 j e
  ·rcases List.mem_cons.1 hj with e|e <;> rcases List.mem_cons.1 hk with e'|e'
   ·rw [e,e']
   ·subst e
    have := h2 k e'
    rw [hd,he] at this
    simp at this
   ·subst e'
    have := h2 j e
    rw [hd,he] at this
    simp at this
   ·exact q2 j e k e' d hd he
theorem Oper.wp_act {P : Program} {Q : Exit → Act → World → Prop} {o : Oper} {a : Act} {w : World} {K : Act → World → Prop} (hh : o.wp P a w K Q) : o.wp P a w (fun a' w'=>K a' w' ∧ ∃ ds v,a' = ({ a with defers := ds } : Act).put o.dst v) Q := by
 unfold Oper.wp at *
 generalize (execOp a.eval o).run P w = r at *
 cases r with
 |ok n w' =>
  cases n <;> simp only [Oper.upon] at hh ⊢ <;>
   first
    |exact ⟨hh,_,_,rfl⟩
    |exact Calls.mono hh (fun e w'' he=>by cases e <;> first|exact ⟨he,_,_,rfl⟩|exact he)
    |exact Rows.mono hh (fun _ _ he=>⟨he,_,_,rfl⟩)
 |halt x w'=>cases x <;> simp only [Oper.upon] at hh ⊢ <;> exact hh
section
variable {c : Cx} {N : Nat} {X0 : Nat → Prop} {M : Nat → BV → Prop} {w0 : World} {st : St} {K : Exit → St → Prop}
theorem Sim.less2 {β : Nat → BV} {a : Act} {w : World} (h : Sim N X0 M w0 st β a w) {st' : St} (hf : ∀ t x,lk t st'.fr = some x → lk t st.fr = some x ∨ R w (XX X0 β st.hp) β x (a.tmps.getD t undef)) (hh : st'.hp = st.hp) :
  Sim N X0 M w0 st' β a w := by
 obtain ⟨fr',hp'⟩ := st'
 obtain ⟨fr,hp⟩ := st
 simp only at hh
 subst hh
 exact { h with
  slots := fun t x hx=>by
   rcases hf t x hx with h1|h2
   ·exact h.slots t x h1
   ·exact h2 }
structure VOk (P : Program) (N : Nat) (X0 : Nat → Prop) (M : Nat → BV → Prop) (w0 : World) (ops : Array Oper) (Q : Exit → Act → World → Prop) (V : Oper → St → SV → Prop) : Prop where
 congr : ∀ o st st2 x,(∀ t ∈ o.looksAt ops,st2.get t = st.get t) → st2.hp = st.hp → V o st x → V o st2 x
 sound : ∀ o st x β a w,Sim N X0 M w0 st β a w → V o st x → if Region.wanted o (yielded ops a.tmps) then o.wp P a w (Ok N X0 M w0 fun s=>s = st.put o.dst x) Q else Ok N X0 M w0 (fun s=>s = st.put o.dst x) (a.put o.dst undef) w
theorem runFl_all {V : Oper → St → SV → Prop} {W : Oper → St → (SV → Prop) → Prop} (hW : ∀ o st K,W o st K → ∃ x,V o st x ∧ K x) {ops : Array Oper}
  (hc : ∀ o st st2 x,(∀ t ∈ o.looksAt ops,st2.get t = st.get t) → st2.hp = st.hp → V o st x → V o st2 x) {K : St → Prop} : ∀ (fl : List Nat) (st : St),floB ops fl = true → runFl W ops.toList fl st K →
  ∃ U,K U ∧ U.hp = st.hp ∧ (∀ t,(∀ i ∈ fl,dstAt ops i ≠ some t) → lk t U.fr = lk t st.fr) ∧ ∀ i ∈ fl,∃ o d x,ops[i]? = some o ∧ o.dst = some d ∧ lk d U.fr = some x ∧ V o U x
 | [],st,_,h=>⟨st,h,rfl,fun _ _=>rfl,fun i hi=>by cases hi⟩
 |i :: r,st,hB,h=>by
  unfold floB at hB
  rw [Bool.and_eq_true] at hB
  obtain ⟨h1,h2⟩ := hB
  unfold runFl at h
  rw [Array.getElem?_toList] at h
  cases ho : ops[i]? with
  |none=>rw [ho] at h; exact h.elim
  |some o =>
   rw [ho] at h h1
   simp only at h h1
   cases hd : o.dst with
   |none=>rw [hd] at h1; cases h1
   |some d =>
    rw [hd] at h1
    simp only [Bool.and_eq_true,List.all_eq_true] at h1
    obtain ⟨x,hv,hk⟩ := hW _ _ _ h
    obtain ⟨U,u1,u2,u3,u4⟩ := runFl_all hW hc r _ h2 hk
    have hdi : dstAt ops i = some d:=by unfold dstAt; rw [ho]; exact hd
    have hr : ∀ j ∈ r,∃ e,dstAt ops j = some e ∧ e ≠ d ∧ e ∉ o.looksAt ops := fun j hj=>by
     have := h1.2 j hj
     cases he : dstAt ops j with
     |none=>rw [he] at this; cases this
     |some e =>
      rw [he] at this
      simp only [Bool.and_eq_true,bne_iff_ne,Bool.not_eq_true',List.contains_iff_mem] at this
      refine ⟨e,rfl,this.1,fun hm=>?_⟩
      have h5 := this.2
      rw [← Bool.not_eq_true,List.contains_iff_mem] at h5
      exact h5 hm
    have hself : d ∉ o.looksAt ops := fun hm=>by
     have h5 := h1.1
     rw [Bool.not_eq_true',← Bool.not_eq_true,List.contains_iff_mem] at h5
     exact h5 hm
    have hdU : lk d U.fr = some x := by
     rw [u3 d (fun j hj he=>by obtain ⟨e,q1,q2,_⟩ := hr j hj; rw [q1] at he; cases he; exact q2 rfl),hd]
     exact put_lk_same _ _ _
    refine ⟨U,u1,by rw [u2,put_hp],fun t ht=>?_,fun j hj=>?_⟩
    ·rw [u3 t fun j hj=>ht j (List.mem_cons_of_mem _ hj),put_lk_ne _ _ _ _ (fun e=>ht i List.mem_cons_self (by rw [hdi,← hd,e]))]
    ·rcases List.mem_cons.1 hj with e|e
     ·subst e
      refine ⟨o,d,x,ho,hd,hdU,hc o st U x (fun t ht=>?_) (by rw [u2,put_hp]) hv⟩
      unfold St.get
      rw [u3 t (fun k hk he=>by obtain ⟨e,q1,_,q3⟩ := hr k hk; rw [q1] at he; cases he; exact q3 ht),put_lk_ne _ _ _ _ (fun e=>by rw [hd] at e; cases e; exact hself ht)]
     ·exact u4 j e
theorem chkQ_at {V : Oper → St → SV → Prop} {W : Oper → St → (SV → Prop) → Prop} (hW : ∀ o st K,W o st K → ∃ x,V o st x ∧ K x) {ops : Array Oper} {U : St} : ∀ {L : List Nat},chkQ W ops.toList U L → ∀ i ∈ L,∃ o d x,ops[i]? = some o ∧ o.dst = some d ∧ lk d U.fr = some x ∧ V o U x
 | [],_,i,hi=>by cases hi
 |j :: r,h,i,hi=>by
  obtain ⟨h1,h2⟩ := h
  rcases List.mem_cons.1 hi with e|e
  ·subst e
   rw [Array.getElem?_toList] at h1
   cases ho : ops[i]? with
   |none=>rw [ho] at h1; exact h1.elim
   |some o =>
    rw [ho] at h1
    simp only at h1
    cases hd : o.dst with
    |none=>rw [hd] at h1; exact h1.elim
    |some d =>
     rw [hd] at h1
     obtain ⟨x,q1,q2⟩ := hW _ _ _ h1
     exact ⟨o,d,x,rfl,hd,q2,q1⟩
  ·exact chkQ_at hW h2 i e
theorem count_setSg {listed : Array Bool} {n i : Nat} (hi : i < n) (hn : n = listed.size) (h2 : listed.getD i false = false) :
  (List.range n).countP (fun j=>!listed.getD j false) = (List.range n).countP (fun j=>!(listed.setIfInBounds i true).getD j false) + 1 := by
 have key : ∀ l : List Nat,l.Nodup → i ∈ l → l.countP (fun j=>!listed.getD j false) = l.countP (fun j=>!(listed.setIfInBounds i true).getD j false) + 1 := by
  intro l hn' hm
  induction l with
  |nil=>cases hm
  |cons q l ihl =>
   rw [List.nodup_cons] at hn'
   simp only [List.countP_cons]
   rw [getD_set _ _ _ _ (by omega)]
   by_cases hq : q = i
   ·subst hq
    have hno : l.countP (fun j=>!listed.getD j false) = l.countP (fun j=>!(listed.setIfInBounds q true).getD j false) := by
     apply List.countP_congr
     intro j hj
     rw [getD_set _ _ _ _ (by omega),if_neg (fun e=>hn'.1 (by rw [← e]; exact hj))]
    rw [h2,hno]; simp
   ·have hm' : i ∈ l := by
     rcases List.mem_cons.1 hm with e|e
     ·exact absurd e.symm hq
     ·exact e
    rw [if_neg hq,ihl hn'.2 hm']; omega
 exact key (List.range n) List.nodup_range (List.mem_range.2 hi)
def afterF (W : Oper → St → (SV → Prop) → Prop) (stp : Oper → St → (St → Prop) → Prop) (l : List Oper) (U : St) (K : St → Prop) : Pl → Prop
 | .last sg=>K U
 | .call sg r=>callQ stp l sg [] U fun T=>runQ W stp l r T K
 | .fork sg j a b=>callQ stp l sg [] U (fun T=>runQ W stp l a T K) ∧ callQ stp l sg [(j,0)] U (fun T=>runQ W stp l b T K)
theorem runQ_after {W : Oper → St → (SV → Prop) → Prop} {stp : Oper → St → (St → Prop) → Prop} {l : List Oper} {K : St → Prop} : ∀ {pl : Pl} {st : St},runQ W stp l pl st K → runFl W l pl.sg.flo st fun U=>chkQ W l U pl.sg.chk ∧ afterF W stp l U K pl
 | .last _,_,h=>h
 | .call _ _,_,h=>h
 | .fork _ _ _ _,_,h=>h
structure StInv (c : Cx) (N : Nat) (X0 : Nat → Prop) (M : Nat → BV → Prop) (w0 : World) (ops : Array Oper) (V : Oper → St → SV → Prop) (W : Oper → St → (SV → Prop) → Prop) (stp : Oper → St → (St → Prop) → Prop) (Kn : St → Prop) (fuel : Nat) (P C L : List Nat) (pl : Pl) (U : St) (listed : Array Bool) (st' : St) (β : Nat → BV) (a : Act) (w : World) : Prop where
 plan : plB ops P C L pl = true
 size : listed.size = ops.size
 cl : Cl ops listed
 fuel : fuel = (List.range ops.size).countP (fun j=>!listed.getD j false)
 calls : ∀ i ∈ C,listed.getD i false = true
 known : ∀ i ∈ L,listed.getD i false = true
 op : ∀ i,pl.opn = some i → listed.getD i false = false
 vals : ∀ i ∈ pl.sg.flo ++ pl.sg.chk,∃ o d x,ops[i]? = some o ∧ o.dst = some d ∧ lk d U.fr = some x ∧ V o U x
 sim : Sim N X0 M w0 st' β a w
 hp : st'.hp = U.hp
 other : ∀ t,(∀ i ∈ P ++ pl.sg.flo,dstAt ops i ≠ some t) → lk t st'.fr = lk t U.fr
 mine : ∀ i ∈ P ++ pl.sg.flo,∀ d,listed.getD i false = true → dstAt ops i = some d → lk d st'.fr = lk d U.fr
 after : afterF W stp ops.toList U Kn pl
theorem stInv_call {ops : Array Oper} {V : Oper → St → SV → Prop} {W : Oper → St → (SV → Prop) → Prop} (hW : ∀ o st K,W o st K → ∃ x,V o st x ∧ K x) {Q : Exit → Act → World → Prop} (hV : VOk c.P N X0 M w0 ops Q V)
  {stp : Oper → St → (St → Prop) → Prop} (hS : StpOk c.P N X0 M w0 ops Q stp) {Kn : St → Prop} {fuel : Nat} {P C L L2 : List Nat} {pl r : Pl} {sg : Sg} {js : List (Nat × Nat)} {U : St} {listed : Array Bool} {st' : St} {β : Nat → BV} {a : Act} {w : World} {o : Oper}
  (hI : StInv c N X0 M w0 ops V W stp Kn (fuel + 1) P C L pl U listed st' β a w) (hsg : pl.sg = sg) (hop : listed.getD sg.op false = false) (ho : ops[sg.op]? = some o) (hrdy : ∀ e ∈ o.after,Region.binds .any e = true → listed.getD e.on false = true)
  (hok : sgOpB ops (P ++ sg.flo) C L2 (js.map (·.1)) sg = true) (hpl : plB ops (without (P ++ sg.flo) (js.map (·.1))) (sg.op :: C) L2 r = true) (hL2 : ∀ i ∈ L2,listed.getD i false = true) (hJ : ∀ i ∈ js.map (·.1),listed.getD i false = false ∧ i ∈ P ++ sg.flo)
  (hK : callQ stp ops.toList sg js U fun T=>runQ W stp ops.toList r T Kn) (ih : ∀ {P C L : List Nat} {pl : Pl} {U : St} {listed : Array Bool} {st' : St} {β : Nat → BV} {a : Act} {w : World},StInv c N X0 M w0 ops V W stp Kn fuel P C L pl U listed st' β a w → wpAny c.P .any ops Q fuel listed a w) :
  wpOp c.P ops Q sg.op (wpAny c.P .any ops Q fuel (listed.setIfInBounds sg.op true)) a w := by
 subst hsg
 generalize hi' : pl.sg.op = i at *
 have hsz := hI.size
 have hcl := hI.cl
 have hs := hI.sim
 have hA := hI.other
 have hB := hI.mine
 have hC := hI.calls
 obtain ⟨ap1,ap2⟩ := apartB_at (L := P ++ pl.sg.flo) (ops := ops) (by have := plB_sg hI.plan; unfold sgB at this; simp only [Bool.and_eq_true] at this; exact this.1.1.1.1.2)
 unfold sgOpB at hok
 rw [hi'] at hok
 simp only [Bool.and_eq_true,decide_eq_true_eq,List.all_eq_true,Bool.or_eq_true,List.contains_iff_mem,beq_iff_eq,Bool.not_eq_true',bne_iff_ne] at hok
 obtain ⟨⟨⟨⟨⟨⟨k1,k2⟩,k3⟩,k5⟩,k6⟩,k7⟩,k8⟩ := hok
 rw [← Bool.not_eq_true,List.contains_iff_mem] at k2 k3
 have hclN : Cl ops (listed.setIfInBounds i true) := fun i' o' j' ho' hi' he'=>by
  rw [getD_set _ _ _ _ (by omega)] at hi' ⊢
  split
  ·rfl
  ·by_cases hii : i' = i
   ·subst hii
    rw [ho] at ho'; cases ho'
    exact hasEdge_listed hrdy he'
   ·rw [if_neg hii] at hi'
    exact hcl i' o' j' ho' hi' he'
 have hcnt : fuel = (List.range ops.size).countP (fun j=>!(listed.setIfInBounds i true).getD j false) := by
  have h1 := count_setSg (listed := listed) k1 hsz.symm hop
  have h2 := hI.fuel
  omega
 unfold callQ at hK
 rw [hi',Array.getElem?_toList,ho] at hK
 simp only at hK
 have hup : ∀ j ∈ P ++ pl.sg.flo,j ∉ pl.sg.cr.map (·.1) → j ∉ js.map (·.1) → listed.getD j false = true := fun j hj hn hn2=>by
  rcases k5 j hj with ((h|h)|h)|h
  ·exact absurd h hn
  ·exact (ancM_at h).ready hcl ho hrdy
  ·exact hL2 j h
  ·exact absurd h hn2
 have hmemD : ∀ t,t ∈ dstsL ops.toList (js ++ pl.sg.cr) ↔ ∃ j,(j ∈ js.map (·.1) ∨ j ∈ pl.sg.cr.map (·.1)) ∧ dstAt ops j = some t := fun t=>by
  rw [dstsL_mem]
  simp only [List.map_append,List.mem_append]
 have hsE : Sim N X0 M w0 (U.drp (dstsL ops.toList (js ++ pl.sg.cr))) β a w := hs.less (fun t x hx=>by
  rw [lk_drp] at hx
  split at hx
  ·cases hx
  ·rename_i hnc
   rw [List.contains_iff_mem,hmemD] at hnc
   by_cases hj : ∃ j ∈ P ++ pl.sg.flo,dstAt ops j = some t
   ·obtain ⟨j,hj,hjd⟩ := hj
    rw [hB j hj t (hup j hj (fun hcr=>hnc ⟨j,.inr hcr,hjd⟩) (fun hcr=>hnc ⟨j,.inl hcr,hjd⟩)) hjd]; exact hx
   ·rw [hA t fun j hj' hd'=>hj ⟨j,hj',hd'⟩]; exact hx) (fun t x hx=>by rw [hI.hp]; exact hx)
 have hst := hS _ β a w o _ hsE hK
 have hnext : ∀ a' w',(Ok N X0 M w0 (fun T=>U.crAll T (dstsL ops.toList (js ++ pl.sg.cr)) o.dst ops.toList pl.sg.cr ∧ runQ W stp ops.toList r (T.bck U (dstsL ops.toList pl.sg.cr)) Kn) a' w' ∧ ∃ ds v,a' = ({ a with defers := ds } : Act).put o.dst v) → wpAny c.P .any ops Q fuel (listed.setIfInBounds i true) a' w' := fun a' w' hk=>by
  obtain ⟨⟨T,β',⟨hcr,h4⟩,h5⟩,ds,v,ha'⟩ := hk
  have hr := plB_sg hpl
  unfold sgB at hr
  simp only [Bool.and_eq_true] at hr
  obtain ⟨⟨⟨⟨⟨d1,d2⟩,d3⟩,d4⟩,d5⟩,d6⟩ := hr
  obtain ⟨aq1,aq2⟩ := apartB_at d2
  obtain ⟨U2,⟨u0,u0'⟩,u2,u3,u4⟩ := runFl_all hW hV.congr _ _ d1 (runQ_after h4)
  simp only [List.all_eq_true,Bool.and_eq_true,Bool.not_eq_true',decide_eq_true_eq] at d3
  have hwo : ∀ j,j ∈ without (P ++ pl.sg.flo) (js.map (·.1)) ↔ j ∈ P ++ pl.sg.flo ∧ j ∉ js.map (·.1) := fun j=>by
   unfold without
   rw [List.mem_filter,Bool.not_eq_true',← Bool.not_eq_true,List.contains_iff_mem]
  have hfl2 : ∀ j ∈ r.sg.flo,j ∉ without (P ++ pl.sg.flo) (js.map (·.1)) ∧ listed.getD j false = false ∧ j ≠ i := fun j hj=>by
   obtain ⟨⟨e1,e2⟩,e3⟩ := d3 j hj
   rw [← Bool.not_eq_true,List.contains_iff_mem] at e1 e2
   have hji : j ≠ i := fun e=>e2 (by rw [e]; exact List.mem_cons_self)
   refine ⟨e1,?_,hji⟩
   cases hl : listed.getD j false with
   |false=>rfl
   |true =>
    rcases k8 j (List.mem_range.2 e3) with ((h|h)|h)|h
    ·exfalso
     refine e1 ((hwo j).2 ⟨h,fun hm=>?_⟩)
     rw [(hJ j hm).1] at hl; cases hl
    ·exact absurd (List.mem_cons_of_mem _ h) e2
    ·exact absurd h hji
    ·have := (ancM_at h).listed hcl hl
     rw [hop] at this; cases this
  let un : List Nat := dstsL ops.toList (pl.sg.cr.filter fun p=>!listed.getD p.1 false)
  have hun : ∀ t,t ∈ un ↔ ∃ j ∈ pl.sg.cr.map (·.1),listed.getD j false = false ∧ dstAt ops j = some t := fun t=>by
   show t ∈ dstsL ops.toList _ ↔ _
   rw [dstsL_mem]
   constructor
   ·rintro ⟨j,hj,hd⟩
    rw [List.mem_map] at hj
    obtain ⟨p,hp,rfl⟩ := hj
    rw [List.mem_filter] at hp
    exact ⟨p.1,List.mem_map.2 ⟨p,hp.1,rfl⟩,by simpa using hp.2,hd⟩
   ·rintro ⟨j,hj,hl,hd⟩
    obtain ⟨p,hp,rfl⟩ := List.mem_map.1 hj
    exact ⟨p.1,List.mem_map.2 ⟨p,List.mem_filter.2 ⟨hp,by simpa using hl⟩,rfl⟩,hd⟩
  have hunc : ∀ t,t ∉ un → lk t ((T.bck U (dstsL ops.toList pl.sg.cr)).drp un).fr = lk t (T.bck U (dstsL ops.toList pl.sg.cr)).fr := fun t ht=>by
   rw [lk_drp,if_neg (by rw [List.contains_iff_mem]; exact ht)]
  have hd0 : ∀ t,(∃ j ∈ P ++ pl.sg.flo,dstAt ops j = some t) → o.dst ≠ some t := fun t ⟨j,hj,hjd⟩ e=>by
   refine k7 j hj ?_
   rw [hjd,← e]
   unfold dstAt
   rw [ho]; rfl
  have ha2 : ∀ t,o.dst ≠ some t → a'.tmps.getD t undef = a.tmps.getD t undef := fun t ht=>by
   subst ha'
   cases hod : o.dst with
   |none=>rfl
   |some e=>rw [getD_put_ne (fun h=>ht (by rw [hod,h]))]
  have h6 : Sim N X0 M w0 ((T.bck U (dstsL ops.toList pl.sg.cr)).drp un) β' a' w' := h5.less2 (fun t x hx=>by
   rw [lk_drp] at hx
   split at hx
   ·cases hx
   ·rename_i hnu
    rw [List.contains_iff_mem] at hnu
    rw [lk_bck] at hx
    split at hx
    ·rename_i hc'
     rw [List.contains_iff_mem] at hc'
     right
     obtain ⟨j,hj,hjd⟩ := dstsL_mem.1 hc'
     obtain ⟨d,t',hjd',hok⟩ := crAll_at hcr j hj
     rw [hjd] at hjd'
     cases hjd'
     have hjl : listed.getD j false = true := by
      cases hl : listed.getD j false with
      |true=>rfl
      |false=>exact absurd ((hun t).2 ⟨j,hj,hl,hjd⟩) hnu
     have hjP := (k6 j hj).1
     have hsl : ∀ y,U.get t = y → y ≠ .junk → lk t U.fr = some y := fun y h hn=>by
      unfold St.get at h
      cases hq : lk t U.fr with
      |none=>rw [hq] at h; exact absurd h.symm hn
      |some y'=>rw [hq] at h; exact congrArg some h
     have hx' : U.get t = x := Option.some.inj hx
     rw [ha2 t (hd0 t ⟨j,hjP,hjd⟩)]
     unfold St.crOk at hok
     rw [hx'] at hok
     cases x with
     |v s =>
      have hR := hs.slots t (.v s) (by rw [hB j hjP t hjl hjd]; exact hsl _ hx' (by intro h; cases h))
      rw [hR.v_inv]
      exact .p (.v s)
     |ptr id s q k =>
      obtain ⟨o1,o2,o3,o4⟩ := hok
      have hR := hs.slots t (.ptr id s q k) (by rw [hB j hjP t hjl hjd]; exact hsl _ hx' (by intro h; cases h))
      obtain ⟨b,hb,hv⟩ := hR.ptr_at
      obtain ⟨s3,i3,k3,e3⟩ := ptrTo_inv o3
      obtain ⟨s4,i4,k4,e4⟩ := ptrTo_inv o4
      have l3 : lk t' (U.drp (dstsL ops.toList (js ++ pl.sg.cr))).fr = some (.ptr id s3 i3 k3) := by
       rw [lk_drp,if_neg (by rw [o1]; simp)]
       unfold St.get at e3
       cases hq : lk t' U.fr with
       |none=>rw [hq] at e3; cases e3
       |some y'=>rw [hq] at e3; exact congrArg some e3
      have l4 : lk t' T.fr = some (.ptr id s4 i4 k4) := by
       unfold St.get at e4
       cases hq : lk t' T.fr with
       |none=>rw [hq] at e4; cases e4
       |some y'=>rw [hq] at e4; exact congrArg some e4
      obtain ⟨b3,hb3,hv3⟩ := (hsE.slots t' _ l3).ptr_at
      obtain ⟨b4,hb4,hv4⟩ := (h5.slots t' _ l4).ptr_at
      rw [ha2 t' (by simpa using o2),hv3] at hv4
      injection hv4 with hv4
      injection hv4 with hv4
      injection hv4 with hv4 _
      rw [hb] at hb3
      cases hb3
      rw [hv]
      exact .ptr id s q k b (by rw [hb4,← hv4])
     | _=>exact hok.elim
    ·exact .inl hx) rfl
  refine ih (P := without (P ++ pl.sg.flo) (js.map (·.1))) (C := i :: C) (L := L2) (pl := r) (U := U2) (st' := (T.bck U (dstsL ops.toList pl.sg.cr)).drp un) (β := β') ⟨hpl,by simpa using hsz,hclN,hcnt,fun j hj=>?_,fun j hj=>?_,fun j hj=>?_,fun j hj=>?_,h6,by rw [u2]; rfl,fun t ht=>?_,fun j hj e hjl hje=>?_,u0'⟩
  ·rw [getD_set _ _ _ _ (by omega)]
   split
   ·rfl
   ·rename_i hji
    rcases List.mem_cons.1 hj with h|h
    ·exact absurd h hji
    ·exact hC j h
  ·rw [getD_set _ _ _ _ (by omega)]
   split
   ·rfl
   ·exact hL2 j hj
  ·have hopr : ∃ J L3,sgOpB ops (without (P ++ pl.sg.flo) (js.map (·.1)) ++ r.sg.flo) (i :: C) L3 J r.sg = true ∧ j = r.sg.op := by
    cases r with
    |last sg=>cases hj
    |call sg r=>unfold plB at hpl; simp only [Bool.and_eq_true] at hpl; exact ⟨_,_,hpl.1.2,(Option.some.inj hj).symm⟩
    |fork sg j a b=>unfold plB at hpl; simp only [Bool.and_eq_true] at hpl; exact ⟨_,_,hpl.1.2.1,(Option.some.inj hj).symm⟩
   obtain ⟨J3,L3,d7,rfl⟩ := hopr
   unfold sgOpB at d7
   simp only [Bool.and_eq_true,decide_eq_true_eq,Bool.not_eq_true'] at d7
   have e1 := d7.1.1.1.1.1.2
   have e2 := d7.1.1.1.1.2
   have e0 := d7.1.1.1.1.1.1
   rw [← Bool.not_eq_true,List.contains_iff_mem] at e1 e2
   have hji : r.sg.op ≠ i := fun e=>e2 (by rw [e]; exact List.mem_cons_self)
   rw [getD_set _ _ _ _ (by omega),if_neg hji]
   cases hl : listed.getD r.sg.op false with
   |false=>rfl
   |true =>
    rcases k8 r.sg.op (List.mem_range.2 e0) with ((h|h)|h)|h
    ·exfalso
     refine e1 (List.mem_append_left _ ((hwo _).2 ⟨h,fun hm=>?_⟩))
     rw [(hJ _ hm).1] at hl; cases hl
    ·exact absurd (List.mem_cons_of_mem _ h) e2
    ·exact absurd h hji
    ·have := (ancM_at h).listed hcl hl
     rw [hop] at this; cases this
  ·rcases List.mem_append.1 hj with h|h
   ·exact u4 j h
   ·exact chkQ_at hW u0 j h
  ·have hno : t ∉ un := fun h=>by
    obtain ⟨j,hj,_,hjd⟩ := (hun t).1 h
    refine ht j (List.mem_append_left _ ((hwo j).2 ⟨(k6 j hj).1,?_⟩)) hjd
    have := (k6 j hj).2
    rw [← Bool.not_eq_true,List.contains_iff_mem] at this
    exact this
   rw [hunc t hno,u3 t fun j hj=>ht j (List.mem_append_right _ hj)]
  ·rcases List.mem_append.1 hj with h|h
   ·have hjP := ((hwo j).1 h).1
    have hji : j ≠ i := fun e=>k2 (e ▸ hjP)
    rw [getD_set _ _ _ _ (by omega),if_neg hji] at hjl
    have hno : e ∉ un := fun hm=>by
     obtain ⟨k,hk,hkl,hkd⟩ := (hun e).1 hm
     have := ap2 j hjP k (k6 k hk).1 e hje hkd
     subst this
     rw [hjl] at hkl; cases hkl
    rw [hunc e hno,u3 e fun k hk hkd=>by
     have := aq2 j hj k (List.mem_append_right _ hk) e hje hkd
     subst this
     exact (hfl2 j hk).1 h]
   ·obtain ⟨_,q2,q3⟩ := hfl2 j h
    rw [getD_set _ _ _ _ (by omega),if_neg q3,q2] at hjl
    cases hjl
 unfold wpOp
 rw [ho]
 simp only
 split
 ·rename_i hw
  rw [if_pos hw] at hst
  exact .inl (Oper.wp_mono hnext (Oper.wp_act hst))
 ·rename_i hw
  rw [if_neg hw] at hst
  exact hnext _ _ ⟨hst,a.defers,undef,rfl⟩
theorem wpAny_Sg {ops : Array Oper} (hbk : backB ops = true) {V : Oper → St → SV → Prop} {W : Oper → St → (SV → Prop) → Prop} (hW : ∀ o st K,W o st K → ∃ x,V o st x ∧ K x) {Q : Exit → Act → World → Prop} (hV : VOk c.P N X0 M w0 ops Q V)
  {stp : Oper → St → (St → Prop) → Prop} (hS : StpOk c.P N X0 M w0 ops Q stp) {Kn : St → Prop} (hQ : ∀ a w,Ok N X0 M w0 Kn a w → Q .normal a w) : ∀ (fuel : Nat) {P C L : List Nat} {pl : Pl} {U : St} {listed : Array Bool} {st' : St} {β : Nat → BV} {a : Act} {w : World},
  StInv c N X0 M w0 ops V W stp Kn fuel P C L pl U listed st' β a w → wpAny c.P .any ops Q fuel listed a w := by
 intro fuel
 induction fuel with
 |zero =>
  intro P C L pl U listed st' β a w hI
  have hsz := hI.size
  have hall : ∀ j,j < ops.size → listed.getD j false = true := fun j hj=>by
   have : (List.range ops.size).countP (fun j=>!listed.getD j false) = 0 := hI.fuel.symm
   rw [List.countP_eq_zero] at this
   have := this j (List.mem_range.2 hj)
   simpa using this
  have hone : ∀ {J L3 : List Nat} {P' : List Nat},sgOpB ops P' C L3 J pl.sg = true → pl.opn = some pl.sg.op → False := fun {J L3 P'} h1 h2=>by
   unfold sgOpB at h1
   simp only [Bool.and_eq_true,decide_eq_true_eq] at h1
   have := hI.op _ h2
   rw [hall _ h1.1.1.1.1.1.1] at this
   cases this
  have hpl := hI.plan
  cases pl with
  |call sg r=>unfold plB at hpl; simp only [Bool.and_eq_true] at hpl; exact (hone hpl.1.2 rfl).elim
  |fork sg j p q=>unfold plB at hpl; simp only [Bool.and_eq_true] at hpl; exact (hone hpl.1.2.1 rfl).elim
  |last sg =>
   refine ⟨?_,hQ a w ⟨U,β,hI.after,hI.sim.less (fun t x hx=>?_) (fun t x hx=>by rw [hI.hp]; exact hx)⟩⟩
   ·rw [List.eq_nil_iff_forall_not_mem]
    intro i hi
    obtain ⟨h1,h2,_⟩ := mem_ready'.1 hi
    have h3 := hall i h1
    rw [Array.getD_eq_getD_getElem?] at h2 h3
    rw [Array.getElem?_eq_getElem (by omega)] at h2 h3
    simp only [Option.getD_some] at h2 h3
    rw [h2] at h3; cases h3
   ·by_cases ht : ∃ i ∈ P ++ sg.flo,dstAt ops i = some t
    ·obtain ⟨i,hi,hd⟩ := ht
     have hio : i < ops.size := by
      unfold dstAt at hd
      cases hq : ops[i]? with
      |none=>rw [hq] at hd; cases hd
      |some o=>exact (Array.getElem?_eq_some_iff.1 hq).1
     rw [hI.mine i hi t (hall i hio) hd]; exact hx
    ·rw [hI.other t fun i hi hd=>ht ⟨i,hi,hd⟩]; exact hx
 |succ fuel ih =>
  intro P C L pl U listed st' β a w hI
  have hsz := hI.size
  have hcl := hI.cl
  have hsg := plB_sg hI.plan
  unfold sgB at hsg
  simp only [Bool.and_eq_true] at hsg
  obtain ⟨⟨⟨⟨⟨b1,b2⟩,b3⟩,b4⟩,b5⟩,b6⟩ := hsg
  obtain ⟨ap1,ap2⟩ := apartB_at b2
  have hgT : ∀ j,j < ops.size → listed.getD j true = listed.getD j false := fun j hj=>by
   rw [Array.getD_eq_getD_getElem?,Array.getD_eq_getD_getElem?,Array.getElem?_eq_getElem (by omega)]; rfl
  have hex : ∃ p,p < ops.size ∧ listed.getD p false = false := by
   have h1 : 0 < (List.range ops.size).countP (fun j=>!listed.getD j false):=by have := hI.fuel; omega
   obtain ⟨p,hp,hq⟩ := List.countP_pos_iff.1 h1
   exact ⟨p,List.mem_range.1 hp,by simpa using hq⟩
  obtain ⟨p,⟨hp,hpf⟩,hmin⟩ := least hex
  have hrdy : p ∈ Region.ready .any ops listed := mem_ready'.2 ⟨hp,by rw [hgT p hp]; exact hpf,_,Array.getElem?_eq_getElem hp,fun e he hb=>by
   have hlt := backB_at hbk (Array.getElem?_eq_getElem hp) e he hb
   cases hh : listed.getD e.on false with
   |true=>rfl
   |false=>have := hmin e.on ⟨by omega,hh⟩; omega⟩
  refine ⟨fun h=>(by rw [h] at hrdy; cases hrdy),fun i hi=>?_⟩
  obtain ⟨h1,h2,o,hoi,h3⟩ := mem_ready'.1 hi
  rw [hgT i h1] at h2
  have hopN : ∀ {J L3 : List Nat},sgOpB ops (P ++ pl.sg.flo) C L3 J pl.sg = true → (i ∈ P ++ pl.sg.flo → pl.sg.op ≠ i) ∧ (i ∉ P ++ pl.sg.flo → pl.opn = some pl.sg.op → i = pl.sg.op) := fun {J L3} h=>by
   unfold sgOpB at h
   simp only [Bool.and_eq_true,decide_eq_true_eq,List.all_eq_true,Bool.or_eq_true,List.contains_iff_mem,beq_iff_eq,Bool.not_eq_true',bne_iff_ne] at h
   obtain ⟨⟨⟨⟨⟨⟨k1,k2⟩,k3⟩,k5⟩,k6⟩,k7⟩,k8⟩ := h
   rw [← Bool.not_eq_true,List.contains_iff_mem] at k2
   refine ⟨fun h e=>k2 (e ▸ h),fun hn ho=>?_⟩
   rcases k8 i (List.mem_range.2 h1) with ((h|h)|h)|h
   ·exact absurd h hn
   ·have := hI.calls i h
    rw [h2] at this; cases this
   ·exact h
   ·have := (ancM_at h).ready hcl hoi h3
    rw [hI.op _ ho] at this; cases this
  by_cases hiP : i ∈ P ++ pl.sg.flo
  ·-- a value
   have hclN : Cl ops (listed.setIfInBounds i true) := fun i' o' j' ho' hi' he'=>by
    rw [getD_set _ _ _ _ (by omega)] at hi' ⊢
    split
    ·rfl
    ·by_cases hii : i' = i
     ·subst hii
      rw [hoi] at ho'; cases ho'
      exact hasEdge_listed h3 he'
     ·rw [if_neg hii] at hi'
      exact hcl i' o' j' ho' hi' he'
   have hcnt : fuel = (List.range ops.size).countP (fun j=>!(listed.setIfInBounds i true).getD j false) := by
    have := count_setSg (listed := listed) h1 hsz.symm h2
    have := hI.fuel
    omega
   have hmem : i ∈ pl.sg.flo ++ pl.sg.chk := by
    rcases List.mem_append.1 hiP with h|h
    ·rw [List.all_eq_true] at b5
     have := b5 i h
     simp only [Bool.or_eq_true,List.any_eq_true,List.contains_iff_mem] at this
     rcases this with (h4|⟨c',h4,h5⟩)|h4
     ·exact List.mem_append_right _ h4
     ·have := (ancM_at h5).listed hcl (hI.calls c' h4)
      rw [h2] at this; cases this
     ·have := hI.known i h4
      rw [h2] at this; cases this
    ·exact List.mem_append_left _ h
   obtain ⟨o',d,x,ho',hd,hx,hvx⟩ := hI.vals i hmem
   rw [hoi] at ho'; cases ho'
   have hdi : dstAt ops i = some d:=by unfold dstAt; rw [hoi]; exact hd
   have hlook : lookB ops (P ++ pl.sg.flo) i = true := by
    rw [List.all_eq_true] at b6
    refine b6 i ?_
    rcases List.mem_append.1 hmem with h|h
    ·exact List.mem_append_right _ h
    ·exact List.mem_append_left _ h
   unfold lookB at hlook
   rw [hoi] at hlook
   simp only [List.all_eq_true] at hlook
   have hval : V o st' x := hV.congr o U st' x (fun t ht=>by
    unfold St.get
    by_cases hj : ∃ j ∈ P ++ pl.sg.flo,dstAt ops j = some t
    ·obtain ⟨j,hj,hjd⟩ := hj
     have := hlook t ht j hj
     rw [hjd] at this
     simp only [beq_self_eq_true,Bool.not_true,Bool.false_or] at this
     rw [hI.mine j hj t (hasEdge_listed h3 this) hjd]
    ·rw [hI.other t fun j hj' hd'=>hj ⟨j,hj',hd'⟩]) hI.hp hvx
   have hst := hV.sound o st' x β a w hI.sim hval
   have hnext : ∀ a' w',Ok N X0 M w0 (fun st2=>st2 = st'.put o.dst x) a' w' → wpAny c.P .any ops Q fuel (listed.setIfInBounds i true) a' w' := fun a' w' hk=>by
    obtain ⟨st2,β',rfl,h5⟩ := hk
    have hset : ∀ j,listed.getD j false = true → (listed.setIfInBounds i true).getD j false = true := fun j hj=>by
     rw [getD_set _ _ _ _ (by omega)]
     split
     ·rfl
     ·exact hj
    refine ih (P := P) (C := C) (L := L) (pl := pl) (U := U) (st' := st'.put o.dst x) (β := β') ⟨hI.plan,by simpa using hsz,hclN,hcnt,fun j hj=>hset j (hI.calls j hj),fun j hj=>hset j (hI.known j hj),fun j hj=>?_,hI.vals,h5,by rw [put_hp]; exact hI.hp,fun t ht=>?_,fun j hj e hjl hje=>?_,hI.after⟩
    ·have hji : j ≠ i := by
      have hpl := hI.plan
      cases pl with
      |last sg=>cases hj
      |call sg r=>unfold plB at hpl; simp only [Bool.and_eq_true] at hpl; rw [← Option.some.inj hj]; exact (hopN hpl.1.2).1 hiP
      |fork sg jj p q=>unfold plB at hpl; simp only [Bool.and_eq_true] at hpl; rw [← Option.some.inj hj]; exact (hopN hpl.1.2.1).1 hiP
     rw [getD_set _ _ _ _ (by omega),if_neg hji]
     exact hI.op j hj
    ·rw [hd,put_lk_ne _ _ _ _ (fun e=>ht i hiP (by rw [hdi,e]))]
     exact hI.other t ht
    ·rw [getD_set _ _ _ _ (by omega)] at hjl
     by_cases hji : j = i
     ·subst hji
      rw [hdi] at hje
      cases hje
      rw [hd,put_lk_same,hx]
     ·rw [if_neg hji] at hjl
      rw [hd,put_lk_ne _ _ _ _ (fun e'=>hji (ap2 j hj i hiP e hje (by rw [hdi,e'])))]
      exact hI.mine j hj e hjl hje
   unfold wpOp
   rw [hoi]
   simp only
   split
   ·rename_i hw; rw [if_pos hw] at hst; exact .inl (Oper.wp_mono hnext hst)
   ·rename_i hw; rw [if_neg hw] at hst; exact hnext _ _ hst
  ·-- the call
   have hpl := hI.plan
   have haf := hI.after
   cases hp0 : pl with
   |last sg =>
    exfalso
    rw [hp0] at hpl hiP
    unfold plB at hpl
    simp only [Bool.and_eq_true,List.all_eq_true,Bool.or_eq_true,List.contains_iff_mem] at hpl
    rcases hpl.2 i (List.mem_range.2 h1) with h|h
    ·exact hiP h
    ·have := hI.calls i h
     rw [h2] at this; cases this
   |call sg r =>
    rw [hp0] at hpl haf
    unfold plB at hpl
    simp only [Bool.and_eq_true] at hpl
    have hii := (hopN (by rw [hp0]; exact hpl.1.2)).2 hiP (by rw [hp0]; rfl)
    have e : pl.sg = sg:=by rw [hp0]; rfl
    rw [e] at hii
    subst hii
    exact stInv_call (js := []) hW hV hS hI e h2 hoi h3 hpl.1.2 hpl.2 hI.known (fun i hi=>by cases hi) haf ih
   |fork sg j p q =>
    rw [hp0] at hpl haf
    unfold plB at hpl
    simp only [Bool.and_eq_true,List.contains_iff_mem] at hpl
    obtain ⟨⟨⟨⟨_,hjP⟩,_⟩,⟨g1,g2⟩⟩,g3,g4⟩ := hpl
    have hii := (hopN (by rw [hp0]; exact g1)).2 hiP (by rw [hp0]; rfl)
    have e : pl.sg = sg:=by rw [hp0]; rfl
    rw [e] at hii
    subst hii
    cases hjl : listed.getD j false with
    |true=>exact stInv_call (js := []) hW hV hS hI e h2 hoi h3 g1 g2 (fun i hi=>by
      rcases List.mem_cons.1 hi with h|h
      ·rw [h]; exact hjl
      ·exact hI.known i h) (fun i hi=>by cases hi) haf.1 ih
    |false=>exact stInv_call (js := [(j,0)]) hW hV hS hI e h2 hoi h3 g3 g4 hI.known (fun i hi=>by
      rcases List.mem_cons.1 hi with h|h
      ·rw [h]; exact ⟨hjl,hjP⟩
      ·cases h) haf.2 ih
theorem WP.stagesS {id : Nat} {l : List Oper} (pl : Pl) {V : Oper → St → SV → Prop} {W : Oper → St → (SV → Prop) → Prop} (hW : ∀ o st K,W o st K → ∃ x,V o st x ∧ K x) (hbk : backB l.toArray = true) (hB : plB l.toArray [] [] [] pl = true) (hm : c.P.follows .mixedOrders = true)
  {stp : Oper → St → (St → Prop) → Prop} (hV : Ap c.P X0 M w0 → VOk c.P N X0 M w0 l.toArray (fun e a' w'=>Ok N X0 M w0 (K e) a' w') V) (hS : Ap c.P X0 M w0 → StpOk c.P N X0 M w0 l.toArray (fun e a' w'=>Ok N X0 M w0 (K e) a' w') stp) (h : runQ W stp l pl st (K .normal)) : WP c N X0 M w0 (.region id l.toArray true) st K := by
 intro hA β a w hs
 have hr := plB_sg hB
 unfold sgB at hr
 simp only [Bool.and_eq_true] at hr
 obtain ⟨⟨⟨⟨⟨d1,d2⟩,d3⟩,d4⟩,d5⟩,d6⟩ := hr
 obtain ⟨U,⟨u0,u0'⟩,u2,u3,u4⟩ := runFl_all (ops := l.toArray) hW (hV hA).congr _ _ d1 (by simpa using runQ_after h)
 have hfl : ∀ j,(Array.replicate l.toArray.size false).getD j false = false := fun j=>by
  rw [Array.getD_eq_getD_getElem?,Array.getElem?_replicate]; split <;> rfl
 refine wp_region_any hm (wpAny_Sg (c := c) hbk hW (hV hA) (hS hA) (Kn := K .normal) (fun a w hk=>hk) l.toArray.size (P := []) (C := []) (L := []) (pl := pl) (U := U) (st' := st) (β := β) ⟨hB,by simp,fun i o j _ hi _=>?_,?_,fun i hi=>(by cases hi),fun i hi=>(by cases hi),fun i _=>hfl i,fun i hi=>?_,hs.grow ((Go.RowKit.Below.refl _ _).drew) (fun b _ hb=>.inl hb) hs.x0,u2.symm,fun t ht=>?_,fun i _ d hi _=>?_,?_⟩)
 ·rw [hfl] at hi; cases hi
 ·have : (List.range l.toArray.size).countP (fun j=>!(Array.replicate l.toArray.size false).getD j false) = (List.range l.toArray.size).countP (fun _=>true) := by
   apply List.countP_congr
   intro j hj
   rw [hfl]; simp
  rw [this]; simp
 ·rcases List.mem_append.1 hi with h|h
  ·exact u4 i h
  ·exact chkQ_at (ops := l.toArray) hW (by simpa using u0) i h
 ·exact (u3 t fun i hi=>ht i (by simpa using hi)).symm
 ·rw [hfl] at hi; cases hi
 ·simpa using u0'
end
def St.stepVW (tys : List (Nat × TyD)) (C : List (FuncId × Ctr)) (N : Nat) (ops : Array Oper) (o : Oper) (st : St) (K : SV → Prop) : Prop :=
 match o.op with
 | .binOp op T x y U=>match st.ev x,st.ev y with
  | .v (.int .i64 a),.v (.int .i64 b)=>if isArith op = true ∧ o.guard.isNone = true then dstOk N o.dst = true ∧ K (.v (.int .i64 (wrapI op a b))) else st.stepV tys C N ops o K
  | _,_=>st.stepV tys C N ops o K
 | _=>st.stepV tys C N ops o K
def St.valW (tys : List (Nat × TyD)) (C : List (FuncId × Ctr)) (N : Nat) (ops : Array Oper) (o : Oper) (st : St) (x : SV) : Prop := st.val tys C N ops o x ∨
 ∃ op T p q U a b,o.op = .binOp op T p q U ∧ st.ev p = .v (.int .i64 a) ∧ st.ev q = .v (.int .i64 b) ∧ isArith op = true ∧ o.guard = none ∧ dstOk N o.dst = true ∧ x = .v (.int .i64 (wrapI op a b))
theorem stepVW_val {tys : List (Nat × TyD)} {C : List (FuncId × Ctr)} {N : Nat} {ops : Array Oper} (o : Oper) (st : St) (K : SV → Prop) (h : st.stepVW tys C N ops o K) : ∃ x,st.valW tys C N ops o x ∧ K x := by
 have old : st.stepV tys C N ops o K → ∃ x,st.valW tys C N ops o x ∧ K x := fun h=>by
  obtain ⟨x,h1,h2⟩ := stepV_val h
  exact ⟨x,.inl h1,h2⟩
 unfold St.stepVW at h
 split at h
 case h_2=>exact old h
 case h_1 _ op T x y U ho =>
  split at h
  case h_2=>exact old h
  case h_1 _ _ a b hx hy =>
   split at h
   case isFalse=>exact old h
   case isTrue hc=>exact ⟨_,.inr ⟨op,T,x,y,U,a,b,ho,hx,hy,hc.1,by simpa using hc.2,h.1,rfl⟩,h.2⟩
section
variable {c : Cx} {N : Nat} {X0 : Nat → Prop} {M : Nat → BV → Prop} {w0 : World} {st : St} {K : Exit → St → Prop}
theorem valW_ok (hA : Ap c.P X0 M w0) {ops : Array Oper} {Q : Exit → Act → World → Prop} : VOk c.P N X0 M w0 ops Q (St.valW c.tys c.C N ops) where
 congr := fun o st st2 x h1 h2 h=>by
  rcases h with h|⟨op,T,p,q,U,a,b,ho,hx,hy,h3,h4,h5,h6⟩
  ·exact .inl (val_congr h1 h2 h)
  ·have hop : ∀ y ∈ o.op.operands,st2.ev y = st.ev y := fun y hy=>by
    cases y with
    |tmp t=>exact h1 t (List.mem_append_left _ (List.mem_filterMap.2 ⟨.tmp t,by simpa using hy,rfl⟩))
    | _=>rfl
   rw [ho] at hop
   exact .inr ⟨op,T,p,q,U,a,b,ho,by rw [hop p (by simp [Op.operands]),hx],by rw [hop q (by simp [Op.operands]),hy],h3,h4,h5,h6⟩
 sound := fun o st x β a w hs h=>by
  rcases h with h|⟨op,T,p,q,U,a',b',ho,hx,hy,h3,h4,h5,h6⟩
  ·exact val_sound hA c.hty c.hC hs h
  ·have hwt : Region.wanted o (yielded ops a.tmps) = true:=by simp [Region.wanted,h4]
   rw [if_pos hwt]
   have e1 : a.eval p = .int .i64 a' := (hx ▸ St.ev_ok hs p : R w _ β (.v (.int .i64 a')) (a.eval p)).v_inv
   have e2 : a.eval q = .int .i64 b' := (hy ▸ St.ev_ok hs q : R w _ β (.v (.int .i64 b')) (a.eval q)).v_inv
   have hr := wrap_run (P := c.P) (T := T) (a := a') (b := b') h3 p q w
   refine wp_of_Yl (K := fun s=>s = st.put o.dst x) hs h5 ⟨.int .i64 (wrapI op a' b'),?_,.p (.v _)⟩ (by rw [h6])
   simp only [Sem.run_bind] at hr
   simp only [execOp,ho,e1,e2,Sem.run_bind,hr,Result.andThen_ok,Sem.run_pure]
attribute [go_sem] runQ callQ runFl chkQ St.drp St.bck dstsL St.crAll St.crOk SV.ptrTo St.stepVW wrapI isArith
theorem WP.stages {id : Nat} {l : List Oper} (pl : Pl) (hbk : backB l.toArray = true) (hB : plB l.toArray [] [] [] pl = true) (hm : c.P.follows .mixedOrders = true)
  (h : runQ (fun o st K=>st.stepV c.tys c.C N l.toArray o K) (fun o st K=>st.step c.tys c.C N l.toArray o K) l pl st (K .normal)) : WP c N X0 M w0 (.region id l.toArray true) st K :=
 WP.stagesS pl (V := St.valW c.tys c.C N l.toArray) (fun o st K h=>by obtain ⟨x,h1,h2⟩ := stepV_val h; exact ⟨x,.inl h1,h2⟩) hbk hB hm (fun hA=>valW_ok hA) (fun hA st β a w o K' hs hw=>step_sound hA c.hty c.hC hs hw) h
theorem WP.stagesW {id : Nat} {l : List Oper} (pl : Pl) (hbk : backB l.toArray = true) (hB : plB l.toArray [] [] [] pl = true) (hm : c.P.follows .mixedOrders = true)
  (h : runQ (fun o st K=>st.stepVW c.tys c.C N l.toArray o K) (fun o st K=>st.step c.tys c.C N l.toArray o K) l pl st (K .normal)) : WP c N X0 M w0 (.region id l.toArray true) st K :=
 WP.stagesS pl (V := St.valW c.tys c.C N l.toArray) stepVW_val hbk hB hm (fun hA=>valW_ok hA) (fun hA st β a w o K' hs hw=>step_sound hA c.hty c.hC hs hw) h
end
end Go.Vc

namespace Go.Proofs.YtoomncljmgcidaaGreat
open Go.Vc
attribute [local irreducible] Go.Vc.WP
attribute [local go_sem] cx0_t cx0_c
def flf6c4355cb1 : List Go.Vc.Fp := [⟨[6],[],[],[],[],[]⟩,⟨[88],[0],[],[],[],[]⟩,⟨[89],[0,1],[],[],[],[]⟩,⟨[90],[0,1,2],[],[],[],[]⟩,⟨[5],[],[],[],[],[]⟩,⟨[92],[4],[],[],[],[]⟩,⟨[],[0,1,2,3,4,5],[],[],[],[]⟩,⟨[],[0,1,2,3,4,5,6],[],[],[],[]⟩,⟨[],[0,1,2,3,4,5,6,7],[],[],[],[]⟩,⟨[],[0,1,2,3,4,5,6,7,8],[],[],[],[]⟩]
def fld3956c1083 : List Go.Vc.Fp := [⟨[6],[],[],[],[],[]⟩,⟨[102],[0],[],[],[],[]⟩,⟨[103],[0,1],[],[],[],[]⟩,⟨[104],[0,1,2],[],[],[],[]⟩,⟨[5],[],[],[],[],[]⟩,⟨[106],[4],[],[],[],[]⟩,⟨[],[0,1,2,3,4,5],[],[],[],[]⟩,⟨[],[0,1,2,3,4,5,6],[],[],[],[]⟩,⟨[],[0,1,2,3,4,5,6,7],[],[],[],[]⟩,⟨[],[0,1,2,3,4,5,6,7,8],[],[],[],[]⟩]
def fl543717ddb6 : List Go.Vc.Fp := [⟨[6],[],[218],[221,222],[],[]⟩,⟨[6],[],[],[221,222],[],[]⟩,⟨[215],[1],[],[221,222],[],[]⟩,⟨[216],[1,2],[],[221,222],[],[]⟩,⟨[217],[1,2,3],[],[221,222],[],[]⟩,⟨[0],[],[],[221,222],[],[]⟩,⟨[219],[5],[],[221,222],[],[]⟩,⟨[220],[5,6],[],[222],[],[221]⟩,⟨[218,221],[1,2,3,4,5,6,7],[],[],[218],[222]⟩,⟨[],[0,1,2,3,4,5,6,7,8],[],[],[],[]⟩,⟨[],[0,1,2,3,4,5,6,7,8,9],[],[],[],[]⟩,⟨[],[0,1,2,3,4,5,6,7,8,9,10],[],[],[],[]⟩]
attribute [local go_sem] flf6c4355cb1 fld3956c1083 fl543717ddb6
attribute [local go_sem] decI_enc decImage_enc spA cpu_eta bxI headsBy innersBy llX lmX St.callX St.panOf St.callLG ctrs St.isX St.stepP runS retY St.fzS addL behind ghoK St.gho St.gh SV.flat St.setO Ob.jk SV.jk
attribute [local go_sem] opA decD0 aggSp obD0 rbC kpD yen St.stepWr St.runWr isArith wrapI
section
attribute [local go_sem] cxPfI_t cxPfI_c LcxPfI
attribute [local go_sem] kPushI kLoadI kStoreI kPopI kZeroI kDropI kAppl decIm obIm
set_option maxHeartbeats 8000000 in
theorem cQf1 : Cy Tryz.prog 124 (kPerfI fun c=>c = 0 ∨ c = 1 ∨ c = 3) := by
 refine Cy.yen Tryz.func124 (by kernel_rfl) rfl fun x hx=>?_
 obtain ⟨⟨I,B,E⟩,⟨⟨⟨pc,sp,fp,S,O⟩,g⟩,q,v⟩,⟨code,a⟩⟩ := x
 obtain ⟨⟨h1,h2,h3,h4,h5,⟨n,h6,h7,h8,h9,h10⟩,h11,h12⟩,hp⟩ := hx
 simp only at h1 h2 h3 h4 h5 h6 h7 h8 h9 h10 h11 h12 hp ⊢
 subst h5
 have h13 : In64 sp:=by unfold In64; omega
 have h12' : -9223372036854775808 ≤ fp ∧ fp ≤ 9223372036854775807 := h12
 refine HoldsY.go (c := cxPfI) Tryz.func124 rfl Tryz.results124 Tryz.ntmps124 (by omega) (by simp) ?_ ?_ ?_
 rotate_right
 intro X0 M w0
 ·refine zP [] [(900000,800001),(900001,800002)] rfl ?_
  simp only [go_sem]
  by_cases k0 : code = 0
  ·subst k0
   have e : performI E ⟨0,a⟩ ⟨pc,sp,fp,S,O⟩ = pushI (⟨pc,sp,fp,S,O⟩,false) a := rfl
   rw [e]
   (repeat' (first|apply zS|apply zB|((first|apply zR|apply zC|apply zT|apply zE|apply zK| refine zF 6 flf6c4355cb1 [88,89,90,91,92,93] [] [] (by decide +kernel) (by kernel_rfl) (by kernel_rfl) (by kernel_rfl) ?_|refine zF 6 fld3956c1083 [102,103,104,105,106,107] [] [] (by decide +kernel) (by kernel_rfl) (by kernel_rfl) (by kernel_rfl) ?_|refine zF 9 fl543717ddb6 [214,215,216,217,218,219,220,221,222] [221,222] [218] (by decide +kernel) (by kernel_rfl) (by kernel_rfl) (by kernel_rfl) ?_|refine zD 9 (by decide +kernel) (by kernel_rfl) ?_); simp only [go_sem,Int.reduceBEq,Int.reduceEq])|apply And.intro|intro _))
   all_goals first|omega|rfl|exact h1|exact ⟨h1,h13⟩|skip
  by_cases k1 : code = 1
  ·subst k1
   obtain ⟨ha0,ha1⟩ := h8 (by omega)
   have e : performI E ⟨1,a⟩ ⟨pc,sp,fp,S,O⟩ = loadI (⟨pc,sp,fp,S,O⟩,false) (w64 (fp + a)) := rfl
   rw [e]
   (repeat' (first|apply zS|apply zB|((first|refine WP.stagesW (id := 6) (.call ⟨[],[0,1,2,3,4,5,6,7],[],8⟩ (.last ⟨[],[],[],0⟩)) (by decide +kernel) (by decide +kernel) (by kernel_rfl) ?_); simp only [go_sem,w64,Int.reduceBEq,Int.reduceEq])|((first|apply zR|apply zC|apply zT|apply zE|apply zK| refine zF 6 flf6c4355cb1 [88,89,90,91,92,93] [] [] (by decide +kernel) (by kernel_rfl) (by kernel_rfl) (by kernel_rfl) ?_|refine zF 6 fld3956c1083 [102,103,104,105,106,107] [] [] (by decide +kernel) (by kernel_rfl) (by kernel_rfl) (by kernel_rfl) ?_|refine zF 9 fl543717ddb6 [214,215,216,217,218,219,220,221,222] [221,222] [218] (by decide +kernel) (by kernel_rfl) (by kernel_rfl) (by kernel_rfl) ?_|refine zD 9 (by decide +kernel) (by kernel_rfl) ?_); simp only [go_sem,w64,Int.reduceBEq,Int.reduceEq])|apply And.intro|intro _))
   all_goals first|omega|rfl|exact h1|exact ⟨h1,h13⟩|skip
  by_cases k3 : code = 3
  ·subst k3
   obtain ⟨ha0,ha1⟩ := h8 (by omega)
   have e : performI E ⟨3,a⟩ ⟨pc,sp,fp,S,O⟩ = loadI (⟨pc,sp,fp,S,O⟩,false) (sp + a) := rfl
   rw [e]
   (repeat' (first|apply zS|apply zB|((first|refine WP.stages (id := 8) (.call ⟨[],[0,1,2,3,4,5,6,7],[],8⟩ (.last ⟨[],[],[],0⟩)) (by decide +kernel) (by decide +kernel) (by kernel_rfl) ?_); simp only [go_sem,Int.reduceBEq,Int.reduceEq])|((first|apply zR|apply zC|apply zT|apply zE|apply zK| refine zF 6 flf6c4355cb1 [88,89,90,91,92,93] [] [] (by decide +kernel) (by kernel_rfl) (by kernel_rfl) (by kernel_rfl) ?_|refine zF 6 fld3956c1083 [102,103,104,105,106,107] [] [] (by decide +kernel) (by kernel_rfl) (by kernel_rfl) (by kernel_rfl) ?_|refine zF 9 fl543717ddb6 [214,215,216,217,218,219,220,221,222] [221,222] [218] (by decide +kernel) (by kernel_rfl) (by kernel_rfl) (by kernel_rfl) ?_|refine zD 9 (by decide +kernel) (by kernel_rfl) ?_); simp only [go_sem,Int.reduceBEq,Int.reduceEq])|apply And.intro|intro _))
   all_goals first|omega|rfl|exact h1|exact ⟨h1,h13⟩|skip
  omega
 ·rfl
 ·intro h; cases h
end
end Go.Proofs.YtoomncljmgcidaaGreat

