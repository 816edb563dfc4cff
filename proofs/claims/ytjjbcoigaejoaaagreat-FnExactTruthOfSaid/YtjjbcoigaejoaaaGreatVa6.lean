/-
  DERIVED. Several texts of ours in one: VpRun2, VpRun3, VpNest, VtLine2, VcX, VcZ, VtPg1I, VtHasS, VpPt, VsLay, VpCut, VcU, VsLib, VsIdx, VtStk, VtFmt, VtTkOk, VtEx, VtPt, VtPtS, VtPe, VtLnOk.
-/
import Derived.Test.YtjjbcoigaejoaaaGreatVa0
import Derived.Test.YtjjbcoigaejoaaaGreatVa1
import Derived.Test.YtjjbcoigaejoaaaGreatVa2
import Derived.Test.YtjjbcoigaejoaaaGreatVa3
import Derived.Test.YtjjbcoigaejoaaaGreatVa4
import Derived.Test.YtjjbcoigaejoaaaGreatVa5
import Derived.Orders
import Derived.Test.YtjjbcoigaejoaaaGreatProg
import Derived.Lib.Split
import Derived.Lib.SplitLaws
import Derived.Lib.CountLaws
import Derived.Lib.ItoaNum
import Derived.Lib.IndexMore
import Derived.Sort.Grow
import Derived.Shelf.Strconv.Itoa3
import Derived.Shelf.Strings.Cut
import Derived.Shelf.Strings.Split
import Derived.Shelf.Strings.OnBuilder
import Derived.Shelf.Strings.Search3
set_option linter.unusedSimpArgs false
set_option linter.unusedVariables false
set_option maxHeartbeats 1000000
set_option maxRecDepth 10000
namespace Go.Proofs.YtjjbcoigaejoaaaGreat
structure RS where
 out : List Int
 vis : List (List Int)
 calls : List Int
inductive Rz where
 |ok (v : Int) (s : RS)
 |stop (c : Int) (s : RS) (a : Nat)
inductive Ra where
 |ok (l : List Int) (s : RS)
 |stop (c : Int) (s : RS) (a : Nat)
def envA : List ByteArray → List Int → ByteArray → Int
 |a :: A,v :: V,y=>if a = y then v else envA A V y
 | _,_,_=>0
def upd (env : ByteArray → Int) (x : ByteArray) (v : Int) : ByteArray → Int := fun y=>if y = x then v else env y
def nxt (T : List Tok) (a : Nat) : Nat := if (a : Int) < exprEnd T a then (exprEnd T a).toNat else a + 1
def ends (T : List Tok) : Nat → Nat → Nat
 | 0,a=>a
 |m + 1,a=>ends T m (nxt T a)
theorem nxt_gt (T : List Tok) (a : Nat) : a < nxt T a:=by unfold nxt; split <;> omega
def ownE (P : List Line) (i : Nat) : Nat := ((ownL P).getD i 0).toNat
def skipOf (P : List Line) (i : Nat) : Nat := if 0 ≤ elseOf P i then (elseOf P i).toNat else (endOf P i).toNat
def pushC (s : RS) (k : Nat) : RS := ⟨s.out,s.vis,s.calls ++ [(k : Int)]⟩
def popC (s : RS) : RS := ⟨s.out,s.vis,s.calls.dropLast⟩
def visit1 (s : RS) (i : Nat) : RS := ⟨s.out,s.vis ++ [s.calls ++ [(i : Int)]],s.calls⟩
def out1 (s : RS) (v : Int) : RS := ⟨s.out ++ [v],s.vis,s.calls⟩
section
variable (ap : Int → Int → Int → Int) (P : List Line) (lim : Nat)
mutual
def evalG : Nat → Nat → (ByteArray → Int) → Nat → RS → Option Rz
 | 0,_,_,_,_=>none
 |n + 1,k,env,a,s=>match (exprAt P k)[a]? with
  |none=>some (.ok 0 s)
  |some t=>match opsG n k env (arN t) (a + 1) [] s with
   |none=>none
   |some (.stop c s' q)=>some (.stop c s' q)
   |some (.ok A s') =>
    if t.kind = 0 then some (.ok t.num s')
    else if t.kind = 1 then some (.ok (env t.name) s')
    else if t.kind = 7 then
     if 6 ≤ s'.calls.length then some (.stop 2 s' (ends (exprAt P k) (arN t) (a + 1)))
     else match bodyG' n (findFn P t.name).toNat (envA (argsAt P (findFn P t.name).toNat) A) ((findFn P t.name).toNat + 1) (pushC s' k) with
      |none=>none
      |some (.stop c s2 _)=>some (.stop c s2 (ends (exprAt P k) (arN t) (a + 1)))
      |some (.ok v s2)=>some (.ok v (popC s2))
    else some (.ok (ap t.kind (A.getD 0 0) (A.getD 1 0)) s')
def opsG : Nat → Nat → (ByteArray → Int) → Nat → Nat → List Int → RS → Option Ra
 | 0,_,_,_,_,_,_=>none
 |n + 1,k,env,0,a,A,s=>some (.ok A s)
 |n + 1,k,env,m + 1,a,A,s=>match evalG n k env a s with
  |none=>none
  |some (.stop c s' q)=>some (.stop c s' q)
  |some (.ok v s')=>opsG n k env m (nxt (exprAt P k) a) (A ++ [v]) s'
def bodyG' : Nat → Nat → (ByteArray → Int) → Nat → RS → Option Rz
 | 0,_,_,_,_=>none
 |n + 1,f,env,i,s =>
  if kd P i = 4 then bodyG' n f env ((endOf P (ownE P i : Nat)).toNat + 1) s
  else if kd P i = 7 then
   if kd P (ownE P i) = 0 then some (.ok 0 s)
   else if kd P (ownE P i) = 5 then bodyG' n f env (ownE P i) s
   else bodyG' n f env (i + 1) s
  else if lim ≤ s.vis.length then some (.stop 1 s 0)
  else match evalG n i env 0 (visit1 s i) with
   |none=>none
   |some (.stop c s' _)=>some (.stop c s' 0)
   |some (.ok v s') =>
    if kd P i = 1 then bodyG' n f (upd env (nameAt P i) v) (i + 1) s'
    else if kd P i = 2 then bodyG' n f env (i + 1) (out1 s' v)
    else if kd P i = 6 then some (.ok v s')
    else if v = 0 then bodyG' n f env (skipOf P i + 1) s'
    else bodyG' n f env (i + 1) s'
end
end
section
variable {ap : Int → Int → Int → Int} {P : List Line} {lim : Nat}
theorem fuel_up : ∀ n : Nat,(∀ k env a s z,evalG ap P lim n k env a s = some z → evalG ap P lim (n + 1) k env a s = some z) ∧
  (∀ k env m a A s z,opsG ap P lim n k env m a A s = some z → opsG ap P lim (n + 1) k env m a A s = some z) ∧
  (∀ f env i s z,bodyG' ap P lim n f env i s = some z → bodyG' ap P lim (n + 1) f env i s = some z)
 | 0=>⟨fun k env a s z h=>by simp [evalG] at h,fun k env m a A s z h=>by simp [opsG] at h,fun f env i s z h=>by simp [bodyG'] at h⟩
 |n + 1=>by
  obtain ⟨ih1,ih2,ih3⟩ := fuel_up n
  refine ⟨fun k env a s z h=>?_,fun k env m a A s z h=>?_,fun f env i s z h=>?_⟩
  ·rw [evalG] at h ⊢
   cases ht : (exprAt P k)[a]? with
   |none=>rw [ht] at h; exact h
   |some t =>
    rw [ht] at h
    simp only at h ⊢
    cases hA : opsG ap P lim n k env (arN t) (a + 1) [] s with
    |none=>rw [hA] at h; cases h
    |some q =>
     rw [hA] at h
     rw [ih2 _ _ _ _ _ _ _ hA]
     cases q with
     |stop c s' q=>exact h
     |ok A s' =>
      simp only at h ⊢
      split
      ·rename_i q; rw [if_pos q] at h; exact h
      ·rename_i q; rw [if_neg q] at h
       split
       ·rename_i q; rw [if_pos q] at h; exact h
       ·rename_i q; rw [if_neg q] at h
        split
        ·rename_i q; rw [if_pos q] at h
         split
         ·rename_i q; rw [if_pos q] at h; exact h
         ·rename_i q; rw [if_neg q] at h
          cases hB : bodyG' ap P lim n (findFn P t.name).toNat (envA (argsAt P (findFn P t.name).toNat) A) ((findFn P t.name).toNat + 1) (pushC s' k) with
          |none=>rw [hB] at h; cases h
          |some q=>rw [hB] at h; rw [ih3 _ _ _ _ _ hB]; exact h
        ·rename_i q; rw [if_neg q] at h; exact h
  ·cases m with
   |zero=>rw [opsG] at h ⊢; exact h
   |succ m =>
    rw [opsG] at h ⊢
    cases hE : evalG ap P lim n k env a s with
    |none=>rw [hE] at h; cases h
    |some q =>
     rw [hE] at h
     rw [ih1 _ _ _ _ _ hE]
     cases q with
     |stop c s' q=>exact h
     |ok v s'=>exact ih2 _ _ _ _ _ _ _ h
  ·rw [bodyG'] at h ⊢
   split
   ·rename_i q; rw [if_pos q] at h; exact ih3 _ _ _ _ _ h
   ·rename_i q; rw [if_neg q] at h
    split
    ·rename_i q; rw [if_pos q] at h
     split
     ·rename_i q; rw [if_pos q] at h; exact h
     ·rename_i q; rw [if_neg q] at h
      split
      ·rename_i q; rw [if_pos q] at h; exact ih3 _ _ _ _ _ h
      ·rename_i q; rw [if_neg q] at h; exact ih3 _ _ _ _ _ h
    ·rename_i q; rw [if_neg q] at h
     split
     ·rename_i q; rw [if_pos q] at h; exact h
     ·rename_i q; rw [if_neg q] at h
      cases hE : evalG ap P lim n i env 0 (visit1 s i) with
      |none=>rw [hE] at h; cases h
      |some q =>
       rw [hE] at h
       rw [ih1 _ _ _ _ _ hE]
       cases q with
       |stop c s' q=>exact h
       |ok v s' =>
        simp only at h ⊢
        split
        ·rename_i q; rw [if_pos q] at h; exact ih3 _ _ _ _ _ h
        ·rename_i q; rw [if_neg q] at h
         split
         ·rename_i q; rw [if_pos q] at h; exact ih3 _ _ _ _ _ h
         ·rename_i q; rw [if_neg q] at h
          split
          ·rename_i q; rw [if_pos q] at h; exact h
          ·rename_i q; rw [if_neg q] at h
           split
           ·rename_i q; rw [if_pos q] at h; exact ih3 _ _ _ _ _ h
           ·rename_i q; rw [if_neg q] at h; exact ih3 _ _ _ _ _ h
theorem evalG_up {n m : Nat} (hm : n ≤ m) {k : Nat} {env : ByteArray → Int} {a : Nat} {s : RS} {z : Rz} (h : evalG ap P lim n k env a s = some z) : evalG ap P lim m k env a s = some z := by
 induction hm with
 |refl=>exact h
 |step _ ih=>exact (fuel_up _).1 _ _ _ _ _ ih
theorem opsG_up {n m : Nat} (hm : n ≤ m) {k : Nat} {env : ByteArray → Int} {j a : Nat} {A : List Int} {s : RS} {z : Ra} (h : opsG ap P lim n k env j a A s = some z) : opsG ap P lim m k env j a A s = some z := by
 induction hm with
 |refl=>exact h
 |step _ ih=>exact (fuel_up _).2.1 _ _ _ _ _ _ _ ih
theorem bodyG_up {n m : Nat} (hm : n ≤ m) {f : Nat} {env : ByteArray → Int} {i : Nat} {s : RS} {z : Rz} (h : bodyG' ap P lim n f env i s = some z) : bodyG' ap P lim m f env i s = some z := by
 induction hm with
 |refl=>exact h
 |step _ ih=>exact (fuel_up _).2.2 _ _ _ _ _ ih
def le1 (s s' : RS) : Prop := s.vis.length ≤ s'.vis.length ∧ s'.calls = s.calls
theorem le1.refl (s : RS) : le1 s s := ⟨Nat.le_refl _,rfl⟩
theorem le1.trans {a b c : RS} (h : le1 a b) (g : le1 b c) : le1 a c := ⟨Nat.le_trans h.1 g.1,g.2.trans h.2⟩
theorem le1.visit {s s' : RS} {i : Nat} (h : le1 (visit1 s i) s') : le1 s s' := ⟨by have := h.1; simp [visit1] at this; omega,h.2⟩
theorem le1.out {s s' : RS} {v : Int} (h : le1 s s') : le1 s (out1 s' v) := h
theorem le1.call {s s' : RS} {k : Nat} (h : le1 (pushC s k) s') : le1 s (popC s') := ⟨h.1,by show s'.calls.dropLast = s.calls; rw [h.2]; simp [pushC]⟩
theorem grows : ∀ n : Nat,(∀ k env a s v s',evalG ap P lim n k env a s = some (.ok v s') → le1 s s') ∧
  (∀ k env m a A s A' s',opsG ap P lim n k env m a A s = some (.ok A' s') → le1 s s' ∧ A'.length = A.length + m) ∧
  (∀ f env i s v s',bodyG' ap P lim n f env i s = some (.ok v s') → le1 s s')
 | 0=>⟨fun k env a s v s' h=>by simp [evalG] at h,fun k env m a A s A' s' h=>by simp [opsG] at h,fun f env i s v s' h=>by simp [bodyG'] at h⟩
 |n + 1=>by
  obtain ⟨ih1,ih2,ih3⟩ := grows n
  refine ⟨fun k env a s v s' h=>?_,fun k env m a A s A' s' h=>?_,fun f env i s v s' h=>?_⟩
  ·rw [evalG] at h
   cases ht : (exprAt P k)[a]? with
   |none=>rw [ht] at h; cases h; exact .refl s
   |some t =>
    rw [ht] at h
    simp only at h
    cases hA : opsG ap P lim n k env (arN t) (a + 1) [] s with
    |none=>rw [hA] at h; cases h
    |some q =>
     rw [hA] at h
     cases q with
     |stop c s1 q=>cases h
     |ok A s1 =>
      have g1 := (ih2 _ _ _ _ _ _ _ _ hA).1
      simp only at h
      split at h
      ·cases h; exact g1
      ·split at h
       ·cases h; exact g1
       ·split at h
        ·split at h
         ·cases h
         ·cases hB : bodyG' ap P lim n (findFn P t.name).toNat (envA (argsAt P (findFn P t.name).toNat) A) ((findFn P t.name).toNat + 1) (pushC s1 k) with
          |none=>rw [hB] at h; cases h
          |some q =>
           rw [hB] at h
           cases q with
           |stop c s2 q=>cases h
           |ok v2 s2=>cases h; exact g1.trans (ih3 _ _ _ _ _ _ hB).call
        ·cases h; exact g1
  ·cases m with
   |zero=>rw [opsG] at h; cases h; exact ⟨.refl s,rfl⟩
   |succ m =>
    rw [opsG] at h
    cases hE : evalG ap P lim n k env a s with
    |none=>rw [hE] at h; cases h
    |some q =>
     rw [hE] at h
     cases q with
     |stop c s1 q=>cases h
     |ok v s1 =>
      obtain ⟨g1,g2⟩ := ih2 _ _ _ _ _ _ _ _ h
      exact ⟨(ih1 _ _ _ _ _ _ hE).trans g1,by rw [g2]; simp; omega⟩
  ·rw [bodyG'] at h
   split at h
   ·exact ih3 _ _ _ _ _ _ h
   ·split at h
    ·split at h
     ·cases h; exact .refl s
     ·split at h
      ·exact ih3 _ _ _ _ _ _ h
      ·exact ih3 _ _ _ _ _ _ h
    ·split at h
     ·cases h
     ·cases hE : evalG ap P lim n i env 0 (visit1 s i) with
      |none=>rw [hE] at h; cases h
      |some q =>
       rw [hE] at h
       cases q with
       |stop c s1 q=>cases h
       |ok v1 s1 =>
        have g1 := (ih1 _ _ _ _ _ _ hE).visit
        simp only at h
        split at h
        ·exact g1.trans (ih3 _ _ _ _ _ _ h)
        ·split at h
         ·exact (le1.out (v := v1) g1).trans (ih3 _ _ _ _ _ _ h)
         ·split at h
          ·cases h; exact g1
          ·split at h
           ·exact g1.trans (ih3 _ _ _ _ _ _ h)
           ·exact g1.trans (ih3 _ _ _ _ _ _ h)
end
end Go.Proofs.YtjjbcoigaejoaaaGreat

namespace Go.Proofs.YtjjbcoigaejoaaaGreat
theorem endGo_split : ∀ (L : List Tok) (n m a : Nat),0 ≤ endGo L (n + m) a → ∃ k,k ≤ L.length ∧ endGo L n a = ((a + k : Nat) : Int) ∧ endGo (L.drop k) m (a + k) = endGo L (n + m) a
 |L,0,m,a,h=>⟨0,by simp,endGo_zero L a,by simp⟩
 | [],n + 1,m,a,h=>by rw [endGo_nil a (by omega)] at h; omega
 |t :: L,n + 1,m,a,h=>by
  cases ht : tokOk t with
  |false=>rw [endGo_bad (by omega) ht] at h; omega
  |true =>
   have e0 : endGo (t :: L) (n + 1 + m) a = endGo L ((n + arN t) + m) (a + 1):=by rw [endGo_ok (by omega) ht,show n + 1 + m - 1 + arN t = (n + arN t) + m by omega]
   rw [e0] at h ⊢
   obtain ⟨k,h1,h2,h3⟩ := endGo_split L (n + arN t) m (a + 1) h
   refine ⟨k + 1,by simp; omega,?_,?_⟩
   ·rw [endGo_ok (by omega) ht,show n + 1 - 1 + arN t = n + arN t by omega,h2]; congr 1; omega
   ·rw [List.drop_succ_cons,show a + (k + 1) = a + 1 + k by omega]; exact h3
def Vld (T : List Tok) (m p e : Nat) : Prop := endGo (T.drop p) m p = ((e : Nat) : Int)
theorem exprEnd_nat (T : List Tok) (a : Nat) : exprEnd T a = endGo (T.drop a) 1 a := by
 unfold exprEnd; rw [if_pos (by omega),Int.toNat_natCast]
theorem exprEnd_nxt {T : List Tok} {a : Nat} (h : 0 ≤ exprEnd T a) : exprEnd T a = (nxt T a : Nat) := by
 have h1 := endGo_form (T.drop a) 1 a
 rw [← exprEnd_nat] at h1
 rcases h1 with e|⟨k,_,e,_,hk⟩
 ·omega
 ·have := hk (by omega)
  unfold nxt
  rw [if_pos (by omega)]; omega
theorem Vld.step {T : List Tok} {m p e : Nat} (h : Vld T (m + 1) p e) : p < T.length ∧ 0 ≤ exprEnd T p ∧ Vld T m (nxt T p) e := by
 unfold Vld at h
 rw [Nat.add_comm] at h
 obtain ⟨k,h1,h2,h3⟩ := endGo_split (T.drop p) 1 m p (by rw [h]; omega)
 rw [← exprEnd_nat] at h2
 have h0 : 0 ≤ exprEnd T p:=by omega
 have h4 := exprEnd_nxt h0
 refine ⟨?_,h0,?_⟩
 ·rcases Nat.lt_or_ge p T.length with q|q
  ·exact q
  ·rw [List.drop_eq_nil_of_le q,endGo_nil _ (by omega)] at h; omega
 ·unfold Vld
  rw [show nxt T p = p + k by omega,← h,← h3,List.drop_drop]
theorem Vld.zero {T : List Tok} {p e : Nat} (h : Vld T 0 p e) : p = e := by
 unfold Vld at h; rw [endGo_zero] at h; omega
theorem vld_args {T : List Tok} {a : Nat} (h : 0 ≤ exprEnd T a) : ∃ t,T[a]? = some t ∧ a < T.length ∧ tokOk t = true ∧ Vld T (arN t) (a + 1) (nxt T a) := by
 have h1 := exprEnd_nxt h
 rw [exprEnd_nat] at h h1
 rcases Nat.lt_or_ge a T.length with q|q
 ·refine ⟨T[a],List.getElem?_eq_getElem q,q,?_⟩
  rw [List.drop_eq_getElem_cons q] at h h1
  cases ht : tokOk T[a] with
  |false=>rw [endGo_bad (by omega) ht] at h; omega
  |true =>
   refine ⟨rfl,?_⟩
   rw [endGo_ok (by omega) ht,show 1 - 1 + arN T[a] = arN T[a] by omega] at h1
   exact h1
 ·rw [List.drop_eq_nil_of_le q,endGo_nil _ (by omega)] at h; omega
theorem ends_succ (T : List Tok) : ∀ (m p : Nat),ends T (m + 1) p = nxt T (ends T m p)
 | 0,p=>rfl
 |m + 1,p=>ends_succ T m (nxt T p)
theorem Vld.ends {T : List Tok} {e : Nat} : ∀ {m p : Nat},Vld T m p e → Go.Proofs.YtjjbcoigaejoaaaGreat.ends T m p = e
 | 0,p,h=>h.zero
 |m + 1,p,h=>h.step.2.2.ends
theorem envA_mem {y : ByteArray} : ∀ {L : List ByteArray} {V : List Int},y ∈ L → L.length ≤ V.length → ∃ i : Nat,firstIdx (fun s=>decide (s = y)) L = (i : Int) ∧ i < L.length ∧ ∀ h : i < V.length,envA L V y = V[i]
 | [],V,h,_=>by cases h
 |a :: L,[],h,hl=>by simp at hl
 |a :: L,v :: V,h,hl=>by
  by_cases ha : a = y
  ·refine ⟨0,?_,by simp,fun _=>?_⟩
   ·unfold firstIdx; rw [List.findIdx?_cons]; simp [ha]
   ·unfold envA; rw [if_pos ha]; rfl
  ·have hy : y ∈ L := by
    rcases List.mem_cons.1 h with e|e
    ·exact absurd e.symm ha
    ·exact e
   obtain ⟨i,h1,h2,h3⟩ := envA_mem (V := V) hy (by simpa using hl)
   refine ⟨i + 1,?_,by simp; omega,fun hi=>?_⟩
   ·unfold firstIdx at h1 ⊢
    rw [List.findIdx?_cons]
    simp only [ha,decide_false,Bool.false_eq_true,if_false]
    cases hf : L.findIdx? (fun s=>decide (s = y)) with
    |none=>rw [hf] at h1; simp only at h1; omega
    |some q=>rw [hf] at h1; simp only [Option.map_some] at h1 ⊢; omega
   ·unfold envA; rw [if_neg ha,h3 (by simpa using hi)]; rfl
theorem envA_set {y : ByteArray} {v : Int} : ∀ {L : List ByteArray} {V : List Int} {i : Nat},firstIdx (fun s=>decide (s = y)) L = (i : Int) → i < V.length → envA L (V.set i v) = upd (envA L V) y v
 | [],V,i,h,_=>by unfold firstIdx at h; simp at h
 |a :: L,[],i,h,hl=>by simp at hl
 |a :: L,w :: V,i,h,hl=>by
  funext z
  unfold firstIdx at h
  rw [List.findIdx?_cons] at h
  by_cases ha : a = y
  ·simp only [ha,decide_true,if_true] at h
   obtain rfl : i = 0:=by omega
   subst ha
   rw [List.set_cons_zero]
   show (if a = z then v else envA L V z) = if z = a then v else (if a = z then w else envA L V z)
   by_cases hz : a = z
   ·rw [if_pos hz,if_pos hz.symm]
   ·rw [if_neg hz,if_neg (Ne.symm hz),if_neg hz]
  ·simp only [ha,decide_false,Bool.false_eq_true,if_false] at h
   cases hf : L.findIdx? (fun s=>decide (s = y)) with
   |none=>rw [hf] at h; simp at h
   |some q =>
    rw [hf] at h
    simp only [Option.map_some] at h
    obtain rfl : i = q + 1:=by omega
    have ih := envA_set (L := L) (V := V) (i := q) (y := y) (v := v) (by unfold firstIdx; rw [hf]) (by simpa using hl)
    rw [List.set_cons_succ]
    show (if a = z then w else envA L (V.set q v) z) = if z = y then v else (if a = z then w else envA L V z)
    rw [ih]
    by_cases hz : a = z
    ·subst hz; rw [if_pos rfl,if_neg ha,if_pos rfl]
    ·rw [if_neg hz,if_neg hz]; rfl
theorem envA_zeros {A : List ByteArray} {V : List Int} (hl : A.length = V.length) (B : List ByteArray) (n : Nat) : envA (A ++ B) (V ++ List.replicate n 0) = envA A V := by
 funext z
 induction A generalizing V with
 |nil =>
  obtain rfl : V = []:=by cases V with
   |nil=>rfl
   |cons v V=>simp at hl
  simp only [List.nil_append,envA]
  clear hl
  induction B generalizing n with
  |nil=>simp [envA]
  |cons b B ih =>
   cases n with
   |zero=>simp [envA]
   |succ n =>
    rw [List.replicate_succ,envA]
    split
    ·rfl
    ·exact ih n
 |cons a A ih =>
  cases V with
  |nil=>simp at hl
  |cons v V =>
   simp only [List.cons_append,envA]
   rw [ih (by simpa using hl)]
structure RsD (lim d : Nat) (s : RS) : Prop where
 l : lim ≤ 1000
 v : s.vis.length ≤ lim
 o : s.out.length + d ≤ s.vis.length
 c : s.calls.length ≤ 6
abbrev RsOk (lim : Nat) (s : RS) : Prop := RsD lim 0 s
theorem RsD.visit {lim d : Nat} {s : RS} {i : Nat} (h : RsD lim d s) (hl : ¬ lim ≤ s.vis.length) : RsD lim (d + 1) (visit1 s i) :=
 ⟨h.l,by simp [visit1]; omega,by have := h.o; simp [visit1]; omega,h.c⟩
theorem RsD.less {lim d : Nat} {s : RS} (h : RsD lim (d + 1) s) : RsD lim d s := ⟨h.l,h.v,by have := h.o; omega,h.c⟩
theorem RsD.out {lim d : Nat} {s : RS} {v : Int} (h : RsD lim (d + 1) s) : RsD lim d (out1 s v) := ⟨h.l,h.v,by have := h.o; simp [out1]; omega,h.c⟩
def RzD (lim d : Nat) : Rz → Prop
 | .ok _ s=>RsD lim d s
 | .stop c s _=>RsD lim d s ∧ (c = 1 ∨ c = 2)
def RaD (lim d : Nat) : Ra → Prop
 | .ok _ s=>RsD lim d s
 | .stop c s _=>RsD lim d s ∧ (c = 1 ∨ c = 2)
theorem RsD.push {lim d : Nat} {s : RS} {k : Nat} (h : RsD lim d s) (hl : ¬ 6 ≤ s.calls.length) : RsD lim d (pushC s k) :=
 ⟨h.l,h.v,h.o,by simp [pushC]; omega⟩
theorem RsD.pop {lim d : Nat} {s : RS} (h : RsD lim d s) : RsD lim d (popC s) := ⟨h.l,h.v,h.o,by have := h.c; simp [popC]; omega⟩
section
variable {ap : Int → Int → Int → Int} {P : List Line} {lim : Nat}
theorem small : ∀ n : Nat,(∀ d k env a s z,RsD lim d s → evalG ap P lim n k env a s = some z → RzD lim d z) ∧
  (∀ d k env m a A s z,RsD lim d s → opsG ap P lim n k env m a A s = some z → RaD lim d z) ∧
  (∀ d f env i s z,RsD lim d s → bodyG' ap P lim n f env i s = some z → RzD lim d z)
 | 0=>⟨fun d k env a s z _ h=>by simp [evalG] at h,fun d k env m a A s z _ h=>by simp [opsG] at h,fun d f env i s z _ h=>by simp [bodyG'] at h⟩
 |n + 1=>by
  obtain ⟨ih1,ih2,ih3⟩ := small n
  refine ⟨fun d k env a s z hs h=>?_,fun d k env m a A s z hs h=>?_,fun d f env i s z hs h=>?_⟩
  ·rw [evalG] at h
   cases ht : (exprAt P k)[a]? with
   |none=>rw [ht] at h; cases h; exact hs
   |some t =>
    rw [ht] at h
    simp only at h
    cases hA : opsG ap P lim n k env (arN t) (a + 1) [] s with
    |none=>rw [hA] at h; cases h
    |some q =>
     have g1 := ih2 _ _ _ _ _ _ _ _ hs hA
     rw [hA] at h
     cases q with
     |stop c s1 q=>cases h; exact g1
     |ok A s1 =>
      have g1 : RsD lim d s1 := g1
      simp only at h
      split at h
      ·cases h; exact g1
      ·split at h
       ·cases h; exact g1
       ·split at h
        ·split at h
         ·cases h; exact ⟨g1,.inr rfl⟩
         ·rename_i hc
          cases hB : bodyG' ap P lim n (findFn P t.name).toNat (envA (argsAt P (findFn P t.name).toNat) A) ((findFn P t.name).toNat + 1) (pushC s1 k) with
          |none=>rw [hB] at h; cases h
          |some q =>
           have g2 := ih3 _ _ _ _ _ _ (g1.push hc) hB
           rw [hB] at h
           cases q with
           |stop c s2 q=>cases h; exact g2
           |ok v2 s2=>cases h; exact RsD.pop g2
        ·cases h; exact g1
  ·cases m with
   |zero=>rw [opsG] at h; cases h; exact hs
   |succ m =>
    rw [opsG] at h
    cases hE : evalG ap P lim n k env a s with
    |none=>rw [hE] at h; cases h
    |some q =>
     have g1 := ih1 _ _ _ _ _ _ hs hE
     rw [hE] at h
     cases q with
     |stop c s1 q=>cases h; exact g1
     |ok v s1=>exact ih2 _ _ _ _ _ _ _ _ g1 h
  ·rw [bodyG'] at h
   split at h
   ·exact ih3 _ _ _ _ _ _ hs h
   ·split at h
    ·split at h
     ·cases h; exact hs
     ·split at h
      ·exact ih3 _ _ _ _ _ _ hs h
      ·exact ih3 _ _ _ _ _ _ hs h
    ·split at h
     ·cases h; exact ⟨hs,.inl rfl⟩
     ·rename_i hl
      have hv := hs.visit (i := i) hl
      cases hE : evalG ap P lim n i env 0 (visit1 s i) with
      |none=>rw [hE] at h; cases h
      |some q =>
       have g1 := ih1 _ _ _ _ _ _ hv hE
       rw [hE] at h
       cases q with
       |stop c s1 q=>cases h; exact ⟨g1.1.less,g1.2⟩
       |ok v1 s1 =>
        have g2 : RsD lim (d + 1) s1 := g1
        have g1 := g2.less
        simp only at h
        split at h
        ·exact ih3 _ _ _ _ _ _ g1 h
        ·split at h
         ·exact ih3 _ _ _ _ _ _ g2.out h
         ·split at h
          ·cases h; exact g1
          ·split at h
           ·exact ih3 _ _ _ _ _ _ g1 h
           ·exact ih3 _ _ _ _ _ _ g1 h
end
end Go.Proofs.YtjjbcoigaejoaaaGreat

namespace Go.Proofs.YtjjbcoigaejoaaaGreat
open Go.Vc
section
variable {α : Type} (cnt : α → Nat) (mrk : Int → α → α)
def cntA (L : List α) : Nat := (L.map cnt).sum
def mkA : Int → List α → List α
 | _,[]=>[]
 |k,x :: L=>mrk k x :: mkA (k + (cnt x : Int)) L
def hfA (k : Int) (L : List α) (i : Nat) : List α := mkA cnt mrk k (L.take i) ++ L.drop i
variable {cnt mrk}
theorem mkA_len : ∀ (L : List α) (k : Int),(mkA cnt mrk k L).length = L.length
 | [],_=>rfl
 |x :: L,k=>by simp [mkA,mkA_len L]
theorem mkA_app : ∀ (L M : List α) (k : Int),mkA cnt mrk k (L ++ M) = mkA cnt mrk k L ++ mkA cnt mrk (k + (cntA cnt L : Int)) M
 | [],M,k=>by simp [mkA,cntA]
 |x :: L,M,k=>by
  rw [List.cons_append,mkA,mkA,mkA_app L M,List.cons_append]
  congr 2
  simp only [cntA,List.map_cons,List.sum_cons]
  congr 1
  omega
theorem cntA_take (L : List α) (i : Nat) (h : i < L.length) : cntA cnt (L.take (i + 1)) = cntA cnt (L.take i) + cnt L[i] := by
 unfold cntA
 rw [List.take_succ_eq_append_getElem h,List.map_append,List.sum_append]
 simp
theorem cntA_le (L : List α) (m : Nat) (h : ∀ x ∈ L,cnt x ≤ m) : cntA cnt L ≤ L.length * m := by
 induction L with
 |nil=>simp [cntA]
 |cons x L ih =>
  have h1 := h x List.mem_cons_self
  have h2 := ih fun y hy=>h y (List.mem_cons_of_mem _ hy)
  simp only [cntA,List.map_cons,List.sum_cons,List.length_cons,Nat.add_mul] at h2 ⊢
  omega
theorem cntA_take_le (L : List α) (i : Nat) : cntA cnt (L.take i) ≤ cntA cnt L := by
 have := List.take_append_drop i L
 have h2 : cntA cnt L = cntA cnt (L.take i) + cntA cnt (L.drop i) := by
  unfold cntA
  rw [← List.sum_append,← List.map_append,this]
 omega
theorem hfA_zero (L : List α) (k : Int) : hfA cnt mrk k L 0 = L:=by simp [hfA,mkA]
theorem hfA_len (L : List α) (k : Int) (i : Nat) (h : i ≤ L.length) : (hfA cnt mrk k L i).length = L.length:=by simp [hfA,mkA_len]; omega
theorem hfA_get (L : List α) (k : Int) (i : Nat) (h : i < L.length) : (hfA cnt mrk k L i)[i]? = some L[i] := by
 unfold hfA
 rw [List.getElem?_append_right (by simp [mkA_len]; omega)]
 simp [mkA_len,Nat.min_eq_left (Nat.le_of_lt h)]
theorem hfA_row {en : α → List SV} (L : List α) (k : Int) (i : Nat) (h : i < L.length) : Go.Vc.rowAt ((hfA cnt mrk k L i).map en) i = en L[i] := by
 unfold Go.Vc.rowAt
 rw [List.getElem?_map,hfA_get L k i h]; rfl
theorem hfA_set {en : α → List SV} (L : List α) (k : Int) (i : Nat) (h : i < L.length) : ((hfA cnt mrk k L i).map en).set i (en (mrk (k + (cntA cnt (L.take i) : Int)) L[i])) = (hfA cnt mrk k L (i + 1)).map en := by
 rw [← List.map_set]
 congr 1
 unfold hfA
 have hl : (mkA cnt mrk k (L.take i)).length = i:=by rw [mkA_len,List.length_take]; omega
 rw [List.set_append,if_neg (by omega),hl,Nat.sub_self,List.drop_eq_getElem_cons h,List.set_cons_zero,List.take_succ_eq_append_getElem h,mkA_app,List.append_assoc]
 rfl
theorem hfA_all (L : List α) (k : Int) : hfA cnt mrk k L L.length = mkA cnt mrk k L:=by simp [hfA]
end
end Go.Proofs.YtjjbcoigaejoaaaGreat

namespace Go.Proofs.YtjjbcoigaejoaaaGreat
open Go.Vc
attribute [local irreducible] Go.Vc.WP
attribute [local go_sem] cx0_t cx0_c
attribute [local go_sem] decS_enc decTok_enc decLine_enc oneLine_f line_eta ghoK St.gho St.gh SV.flat
theorem allVs_map {α : Type} {en : α → List SV} (h : ∀ x,∀ c ∈ en x,∃ v,c = SV.v v) (L : List α) : allVs (L.map en) ↔ True := iff_true_intro (by
 intro row hr c hc
 obtain ⟨n,_,rfl⟩ := List.mem_map.1 hr
 exact h n c hc)
theorem allVs_S (L : List ByteArray) : allVs (L.map encS) ↔ True := allVs_map (fun x c hc=>by simp only [encS,List.mem_cons,List.not_mem_nil,or_false] at hc; exact ⟨_,hc⟩) L
theorem allVs_Tok (L : List Tok) : allVs (L.map encTok) ↔ True := allVs_map (fun x c hc=>by simp only [encTok,List.mem_cons,List.not_mem_nil,or_false] at hc; rcases hc with rfl|rfl|rfl <;> exact ⟨_,rfl⟩) L
theorem allVs_rep {n : Nat} {z : List SV} (h : ∀ c ∈ z,∃ v,c = SV.v v) : allVs (List.replicate n z) := fun row hr c hc=>by
 rw [List.eq_of_mem_replicate hr] at hc
 exact h c hc
attribute [local go_sem] allVs_S allVs_Tok
def ktoLineO : Ctr := pur (fun args=>decLine (aR args 0)) (fun L=>[.sl 4 (L.map encLine)]) (fun L=>L.length ≤ 1048576 ∧ ∀ x ∈ L,shLine x) (fun d _=>.own d) (fun d L=>[(d,.dp 52 4 (L.map encLine))])
section
noncomputable def cxTls := mkX [(17,ktoLine)] (COk.cons ctoLine (COk.nil _))
theorem cxTls_t : cxTls.tys = tys := rfl
theorem cxTls_c : cxTls.C = [(17,ktoLine)] := rfl
attribute [local go_sem] cxTls_t cxTls_c ktoLine
theorem ctoLineO : Cn Tryz.prog 6 ktoLineO := by
 refine Cn.pur Tryz.func6 (by kernel_rfl) rfl fun d x hx=>?_
 rename List Line=>L
 obtain ⟨hL,hY⟩ := hx
 refine Holds.go (c := cxTls) Tryz.func6 rfl Tryz.results6 Tryz.ntmps6 (by omega) (by simp) rfl ?_
 intro X0 w0
 (repeat' (first|apply zS|apply zB|((first|apply zR|apply zC|apply zT|apply zE|apply zK);simp only [go_sem])|apply And.intro|intro _))
 all_goals first|omega|skip
 refine zG [.dp 7] ?_
 simp only [go_sem]
 refine ⟨allVs_rep (by simp),?_⟩
 refine zL (fun k : Nat=>⟨[(0,.sl 4 (L.map encLine)),(3,.own 7),(4,.v (.int .i64 k))],[(7,.dp 52 4 (filled encLine zerLine L k))]⟩) (fun k=>k ≤ L.length) (fun k=>L.length - k) 0 (by omega) ?_ ?_
 ·rw [filled_zero]; simp only [go_sem]; first|exact ⟨rfl,rfl⟩|rfl
 intro k hk
 by_cases hlt : k < L.length
 ·have h0 := hY _ (List.getElem_mem hlt)
  have h1 := rowAt_map encLine L k hlt
  have h2 := filled_len encLine zerLine L k hk
  have h3 : Go.Vc.rowAt (filled encLine zerLine L k) k = [.v (.int .i64 0),.v (.string ⟨#[]⟩),.v (.slice none 0 0),.v (.slice none 0 0)] := filled_row encLine zerLine L k hlt
  have h4 := filled_set encLine zerLine L k hlt
  rw [encLine] at h4
  refine zO [.abs 7 2,.abs 7 3,.fld 7] ?_
  refine zG [.opn 7 k] ?_
  simp only [go_sem,h2,h3]
  refine ⟨hlt,?_⟩
  (repeat' (first|apply zS|apply zB|((first|apply zR|apply zC|apply zT|apply zE|apply zK);simp only [go_sem,h1,h2,h3,h4,encLine])|apply And.intro|intro _))
  all_goals first|omega|exact h0.1|exact h0.2|exact ⟨k + 1,by omega,by omega,rfl,rfl⟩|skip
 ·have h2 := filled_len encLine zerLine L k hk
  have h5 : filled encLine zerLine L k = L.map encLine:=by rw [show k = L.length by omega]; exact filled_all _ _ _
  (repeat' (first|apply zS|apply zB|((first|apply zR|apply zC|apply zT|apply zE|apply zK);simp only [go_sem,h2,h5])|apply And.intro|intro _))
  all_goals first|omega|skip
end
def kqLine : Ctr := pur (fun args=>oneLine (aC args 0)) (fun x=>[.agg [.v (.int .i64 x.kind),.v (.string x.name),.sl 1 (x.args.map encS),.sl 3 (x.expr.map encTok)],.agg [.v (.int .i64 x.kind),.v (.string x.name),.sl 1 (x.args.map encS),.sl 3 (x.expr.map encTok)]]) shLine (fun _ _=>.v (.bool true)) (fun _ _=>[])
section
noncomputable def cxQln := mkX [(46,keqS),(47,keqTokS)] (COk.cons ceqS (COk.cons ceqTokS (COk.nil _)))
theorem cxQln_t : cxQln.tys = tys := rfl
theorem cxQln_c : cxQln.C = [(46,keqS),(47,keqTokS)] := rfl
attribute [local go_sem] cxQln_t cxQln_c keqS keqTokS
theorem cqLine : Cn Tryz.prog 23 kqLine := by
 refine Cn.pur Tryz.func23 (by kernel_rfl) rfl fun d x hx=>?_
 obtain ⟨k,n,A,E⟩ := x
 unfold shLine at hx
 obtain ⟨hA,hE⟩ := hx
 simp only at hA hE ⊢
 refine Holds.go (c := cxQln) Tryz.func23 rfl Tryz.results23 Tryz.ntmps23 (by omega) (by simp) rfl ?_
 intro X0 w0
 (repeat' (first|apply zS|apply zB|((first|apply zR|apply zC|apply zT|apply zE|apply zK);simp only [go_sem])|apply And.intro|intro _))
 all_goals first|omega|skip
end
def kqLineS : Ctr := pur (fun args=>decLine (aR args 0)) (fun L=>[.sl 4 (L.map encLine),.sl 4 (L.map encLine)]) (fun L=>L.length ≤ 1048576 ∧ ∀ x ∈ L,shLine x) (fun _ _=>.v (.bool true)) (fun _ _=>[])
section
attribute [local irreducible] shLine
noncomputable def cxQls := mkX [(23,kqLine)] (COk.cons cqLine (COk.nil _))
theorem cxQls_t : cxQls.tys = tys := rfl
theorem cxQls_c : cxQls.C = [(23,kqLine)] := rfl
attribute [local go_sem] cxQls_t cxQls_c kqLine
theorem cqLineS : Cn Tryz.prog 9 kqLineS := by
 refine Cn.pur Tryz.func9 (by kernel_rfl) rfl fun d x hx=>?_
 rename List Line=>L
 obtain ⟨hL,hY⟩ := hx
 refine Holds.go (c := cxQls) Tryz.func9 rfl Tryz.results9 Tryz.ntmps9 (by omega) (by simp) rfl ?_
 intro X0 w0
 (repeat' (first|apply zS|apply zB|((first|apply zR|apply zC|apply zT|apply zE|apply zK| refine zD 10 (by decide +kernel) (by kernel_rfl) ?_); simp only [go_sem])|apply And.intro|intro _))
 all_goals first|omega|skip
 refine zL (fun k : Nat=>⟨[(0,.sl 4 (L.map encLine)),(1,.sl 4 (L.map encLine)),(5,.v (.int .i64 k))],[]⟩) (fun k=>k ≤ L.length) (fun k=>L.length - k) 0 (by simp) ?_ ?_
 ·simp only [go_sem]; first|exact ⟨rfl,rfl⟩|rfl
 intro k hk
 by_cases hlt : k < L.length
 ·have h1 := rowAt_map encLine L k hlt
  have h0 := hY _ (List.getElem_mem hlt)
  (repeat' (first|apply zS|apply zB|((first|apply zR|apply zC|apply zT|apply zE|apply zK| refine zD 10 (by decide +kernel) (by kernel_rfl) ?_); simp only [go_sem,h1,encLine])|apply And.intro|intro _))
  all_goals first|omega|exact h0|exact ⟨k + 1,by omega,by omega,rfl⟩|exact ⟨k + 1,by omega,by omega,rfl,rfl⟩|skip
 ·(repeat' (first|apply zS|apply zB|((first|apply zR|apply zC|apply zT|apply zE|apply zK| refine zD 10 (by decide +kernel) (by kernel_rfl) ?_); simp only [go_sem])|apply And.intro|intro _))
  all_goals first|omega|skip
end
def cntLine (x : Line) : Nat := 2 + x.args.length + 3 * x.expr.length
def mrkLine (k : Int) (x : Line) : Line := ⟨k,markT (k + 1),marksS (k + 1 + 1) x.args.length,marksTok (k + 1 + 1 + (x.args.length : Int)) x.expr.length⟩
theorem cntLine_le {x : Line} (h : shLine x) : cntLine x ≤ 8388608:=by unfold cntLine; have := h.1; have := h.2; omega
def kmarkLineS : Ctr := len [0] [] (fun args obs=>(decLine (oD obs 1000000),aI args 1,oE obs 1000000)) (fun x=>[.own 1000000,.v (.int .i64 x.2.1)]) (fun x=>[(1000000,.dp x.2.2 4 (x.1.map encLine))]) (fun x=>x.1.length ≤ 1048576 ∧ (∀ y ∈ x.1,shLine y) ∧ 0 ≤ x.2.1 ∧ x.2.1 ≤ 100000000000000)
 (fun _ x=>.v (.int .i64 (x.2.1 + (cntA cntLine x.1 : Int)))) (fun _ _=>[]) (fun x=>[(1000000,.dp x.2.2 4 ((mkA cntLine mrkLine x.2.1 x.1).map encLine))])
section
noncomputable def cxMln := mkX [(24,kmarkT),(25,kmarkSE),(26,kmarkTokE)] (COk.cons cmarkT (COk.cons cmarkSE (COk.cons cmarkTokE (COk.nil _))))
theorem cxMln_t : cxMln.tys = tys := rfl
theorem cxMln_c : cxMln.C = [(24,kmarkT),(25,kmarkSE),(26,kmarkTokE)] := rfl
attribute [local go_sem] cxMln_t cxMln_c kmarkT kmarkSE kmarkTokE
theorem cmarkLineS : Cn Tryz.prog 10 kmarkLineS := by
 refine Cn.len Tryz.func10 (by kernel_rfl) rfl fun d x hd hx=>?_
 obtain ⟨L,k0,ee⟩ := x
 obtain ⟨hL,hY,h0,h1⟩ := hx
 simp only at hL hY h0 h1 ⊢
 have hcnt : cntA cntLine L ≤ 8796093022208 := Nat.le_trans (cntA_le L 8388608 fun x hx=>cntLine_le (hY x hx)) (Nat.le_trans (Nat.mul_le_mul_right _ hL) (by decide))
 refine HoldsL.go (c := cxMln) Tryz.func10 rfl Tryz.results10 Tryz.ntmps10 (by omega) (by simp) rfl (by simp <;> omega) (by simp [SV.owns2,SV.owns,SV.owns1]) (by simp) rfl rfl (by simp) ?_
 intro X0 M w0
 (repeat' (first|apply zS|apply zB|((first|apply zR|apply zC|apply zT|apply zE|apply zK);simp only [go_sem])|apply And.intro|intro _))
 refine zL (fun k : Nat=>⟨[(0,.own 1000000),(1,.v (.int .i64 (k0 + (cntA cntLine (L.take k) : Int)))),(5,.v (.int .i64 k))],[(1000000,.dp ee 4 ((hfA cntLine mrkLine k0 L k).map encLine))]⟩) (fun k=>k ≤ L.length) (fun k=>L.length - k) 0 (by omega) ?_ ?_
 ·have e2 : cntA cntLine (L.take 0) = 0 := rfl
  rw [hfA_zero,e2]; (simp only [go_sem] <;> (first|(and_intros <;> rfl)|simp))
 intro k hk
 have h2 := hfA_len (cnt := cntLine) (mrk := mrkLine) L k0 k hk
 have hc2 := cntA_take_le (cnt := cntLine) L k
 by_cases hlt : k < L.length
 ·have h3 := hfA_set (cnt := cntLine) (mrk := mrkLine) (en := encLine) L k0 k hlt
  have h4 := hfA_row (cnt := cntLine) (mrk := mrkLine) (en := encLine) L k0 k hlt
  have hsh := hY _ (List.getElem_mem hlt)
  have hc3 := cntA_take (cnt := cntLine) L k hlt
  have hc4 := cntA_take_le (cnt := cntLine) L (k + 1)
  generalize L[k] = y at h3 h4 hsh hc3
  obtain ⟨yk,yn,yA,yE⟩ := y
  obtain ⟨hA,hE⟩ := hsh
  generalize hkk : k0 + (cntA cntLine (L.take k) : Int) = kk at h3
  rw [encLine,mrkLine] at h3
  rw [encLine] at h4
  simp only at h3 h4 hA hE
  rw [show cntLine ⟨yk,yn,yA,yE⟩ = 2 + yA.length + 3 * yE.length from rfl] at hc3
  refine zO [.abs 1000000 2,.abs 1000000 3,.fld 1000000] ?_
  refine zG [.opn 1000000 k,.borV 1000000 2 500,.borV 1000000 3 501] ?_
  simp only [go_sem,h2,h4]
  refine ⟨hlt,fun e1 e2=>?_⟩
  (repeat' (first|apply zS|apply zB|((first|apply zR|apply zC|apply zT|apply zE|apply zK);simp only [go_sem,h2,h3,h4])|apply And.intro|intro _))
  all_goals first|omega|skip
  refine ⟨k + 1,by omega,by omega,⟨?_,rfl⟩,rfl⟩
  rw [show kk + 1 + 1 + (yA.length : Int) + 3 * (yE.length : Int) = k0 + (cntA cntLine (List.take (k + 1) L) : Int) by omega]
 ·have h5 : hfA cntLine mrkLine k0 L k = mkA cntLine mrkLine k0 L:=by rw [show k = L.length by omega]; exact hfA_all _ _
  have h6 := mkA_len (cnt := cntLine) (mrk := mrkLine) L k0
  (repeat' (first|apply zS|apply zB|((first|apply zR|apply zC|apply zT|apply zE|apply zK);simp only [go_sem,h2,h5,h6])|apply And.intro|intro _))
  all_goals first|omega|skip
  all_goals rw [show k = L.length by omega,List.take_length]
end
end Go.Proofs.YtjjbcoigaejoaaaGreat

namespace Go.Vc
def St.fzS : St → List Nat → St
 |st,[]=>st
 |st,s :: l=>((st.fzL (st.ev (.tmp s)).strip.ownId)).fzS l
theorem Sim.fzS {P : Program} {X0 : Nat → Prop} {M : Nat → BV → Prop} {w0 : World} {N : Nat} {β : Nat → BV} {a : Act} {w : World} (hA : Ap P X0 M w0) : ∀ (l : List Nat) {st : St},Sim N X0 M w0 st β a w → Sim N X0 M w0 (st.fzS l) β a w
 | [],_,h=>h
 | _ :: l,_,h=>Sim.fzS hA l (h.fzL hA _)
end Go.Vc

namespace Go.Vc
section
variable {P : Program} {Q : Exit → Act → World → Prop} {s q : Nat} {ops : Array Oper}
def behind (o : Oper) (q : Nat) : Oper := { o with after := o.after.push ⟨q,.data⟩ }
def addE (s q : Nat) (ops : Array Oper) : Array Oper := ops.modify s fun o=>behind o q
theorem addE_get (i : Nat) : (addE s q ops)[i]? = (ops[i]?).map fun o=>if i = s then behind o q else o := by
 unfold addE
 rw [Array.getElem?_modify]
 by_cases h : s = i
 ·rw [if_pos h]; subst h; simp
 ·rw [if_neg h]
  have : ¬ i = s := fun e=>h e.symm
  simp [this]
theorem yielded_addE (tmps : Array Value) : yielded (addE s q ops) tmps = yielded ops tmps := by
 funext j
 unfold yielded
 rw [addE_get]
 cases ops[j]? with
 |none=>rfl
 |some o =>
  simp only [Option.map_some,Option.bind_some]
  by_cases hj : j = s
  ·rw [if_pos hj]; rfl
  ·rw [if_neg hj]
theorem wpOp_addE {i : Nat} {K : Act → World → Prop} {a : Act} {w : World} (h : wpOp P (addE s q ops) Q i K a w) : wpOp P ops Q i K a w := by
 unfold wpOp at h ⊢
 rw [addE_get,yielded_addE] at h
 cases ho : ops[i]? with
 |none=>rw [ho] at h; exact h
 |some o =>
  rw [ho] at h
  simp only [Option.map_some] at h ⊢
  by_cases hi : i = s
  ·rw [if_pos hi] at h; exact h
  ·rw [if_neg hi] at h; exact h
theorem ready_addE {i : Nat} {listed : Array Bool} : i ∈ Region.ready .any (addE s q ops) listed ↔ i ∈ Region.ready .any ops listed ∧ (i = s → listed.getD q false = true) := by
 rw [mem_ready',mem_ready',addE_get,show (addE s q ops).size = ops.size by unfold addE; rw [Array.size_modify]]
 constructor
 ·rintro ⟨h1,h2,o',ho',h3⟩
  cases ho : ops[i]? with
  |none=>rw [ho] at ho'; cases ho'
  |some o =>
   rw [ho] at ho'
   simp only [Option.map_some,Option.some.injEq] at ho'
   by_cases hi : i = s
   ·rw [if_pos hi] at ho'
    subst ho'
    refine ⟨⟨h1,h2,o,rfl,fun e he hb=>h3 e (by unfold behind; simp [he]) hb⟩,fun _=>h3 ⟨q,.data⟩ (by unfold behind; simp) rfl⟩
   ·rw [if_neg hi] at ho'
    subst ho'
    exact ⟨⟨h1,h2,o,rfl,h3⟩,fun e=>absurd e hi⟩
 ·rintro ⟨⟨h1,h2,o,ho,h3⟩,h4⟩
  rw [ho]
  simp only [Option.map_some,Option.some.injEq]
  refine ⟨h1,h2,_,rfl,fun e he hb=>?_⟩
  by_cases hi : i = s
  ·rw [if_pos hi] at he
   unfold behind at he
   simp only [Array.mem_push] at he
   rcases he with he|rfl
   ·exact h3 e he hb
   ·exact h4 hi
  ·rw [if_neg hi] at he
   exact h3 e he hb
structure EdgeOk (ops : Array Oper) (s q : Nat) (oq : Oper) : Prop where
 ne : s ≠ q
 at_q : ops[q]? = some oq
 sel : ∀ (j : Nat) (o : Oper) cs b,ops[j]? = some o → o.op ≠ .select cs b
 deps : ∀ os,ops[s]? = some os → ∀ e ∈ oq.after,Region.binds .any e = true → ∃ e' ∈ os.after,Region.binds .any e' = true ∧ e'.on = e.on
 apart : ∀ j oj,ops[j]? = some oj → j ≠ q → (∀ e ∈ oq.after,Region.binds .any e = true → e.on ≠ j) → (∀ e ∈ oj.after,Region.binds .any e = true → e.on ≠ q) → oq.apart ops oj = true
 guard : oq.guard = none
 pure : ∀ (a : Act) (w : World) (K : Act → World → Prop) (Q : Exit → Act → World → Prop),(∀ e a w,e ≠ .normal → ¬ Q e a w) → oq.wp P a w K Q → ∃ v,(∀ w,(execOp a.eval oq).run P w = .ok (.value v) w) ∧ K (a.put oq.dst v) w
theorem wpAny_edge {oq : Oper} (hE : EdgeOk (P := P) ops s q oq) (hQ : ∀ e a w,e ≠ .normal → ¬ Q e a w) : ∀ (fuel : Nat) (listed : Array Bool) (a : Act) (w : World),listed.size = ops.size → wpAny P .any (addE s q ops) Q fuel listed a w → wpAny P .any ops Q fuel listed a w := by
 have hq2 : ∀ {listed : Array Bool},q ∈ Region.ready .any ops listed → q ∈ Region.ready .any (addE s q ops) listed := fun {listed} h=>ready_addE.2 ⟨h,fun e=>absurd e.symm hE.ne⟩
 have early : ∀ {listed : Array Bool} {i : Nat},listed.size = ops.size → i ∈ Region.ready .any ops listed → i ∉ Region.ready .any (addE s q ops) listed → q ∈ Region.ready .any ops listed := fun {listed i} hsz h1 h2=>by
  have his : i = s := Classical.byContradiction fun hn=>h2 (ready_addE.2 ⟨h1,fun e=>absurd e hn⟩)
  subst his
  have hql : listed.getD q false = false := by
   cases hh : listed.getD q false with
   |true=>exact absurd (ready_addE.2 ⟨h1,fun _=>hh⟩) h2
   |false=>rfl
  obtain ⟨g1,g2,os,ho,g3⟩ := mem_ready'.1 h1
  have hqs : q < ops.size := (Array.getElem?_eq_some_iff.1 hE.at_q).1
  have hqt : listed.getD q true = false := by
   rw [Array.getD_eq_getD_getElem?,Array.getElem?_eq_getElem (by omega)] at hql ⊢
   exact hql
  refine mem_ready'.2 ⟨hqs,hqt,oq,hE.at_q,fun e he hb=>?_⟩
  obtain ⟨e',he',hb',hon⟩ := hE.deps os ho e he hb
  rw [← hon]
  exact g3 e' he' hb'
 intro fuel
 induction fuel with
 |zero =>
  intro listed a w hsz h
  refine ⟨?_,h.2⟩
  rcases hr : Region.ready .any ops listed with _|⟨i,l⟩
  ·rfl
  ·exfalso
   have hi : i ∈ Region.ready .any ops listed:=by rw [hr]; simp
   have hn : ∀ j,j ∉ Region.ready .any (addE s q ops) listed := fun j hj=>by rw [h.1] at hj; cases hj
   exact hn q (hq2 (early hsz hi (hn i)))
 |succ fuel ih =>
  intro listed a w hsz H
  by_cases hq : q ∈ Region.ready .any ops listed
  ·have h1 := wpOp_addE (H.2 q (hq2 hq))
   unfold wpOp at h1
   rw [hE.at_q] at h1
   have hw : Region.wanted oq (yielded ops a.tmps) = true:=by simp [Region.wanted,hE.guard]
   simp only [hw,if_true] at h1
   rcases h1 with h1|⟨_,x,y,h1⟩
   ·obtain ⟨v,hrun,hK⟩ := hE.pure a w _ _ hQ h1
    exact wpAny_first hE.at_q hE.sel (fun c a w h=>absurd h (hQ _ _ _ (by simp))) fuel listed a w (fun j oj hj hne hl hw'=>hE.apart j oj hj hne (fun e he hb hj'=>by
     obtain ⟨_,_,o2,ho2,h3⟩ := mem_ready'.1 hq
     rw [hE.at_q] at ho2
     obtain rfl := Option.some.inj ho2
     have h4 := h3 e he hb
     rw [hj'] at h4
     have hjs : j < ops.size := (Array.getElem?_eq_some_iff.1 hj).1
     rw [Array.getD_eq_getD_getElem?,Array.getElem?_eq_getElem (by omega)] at hl h4
     simp only [Option.getD_some] at hl h4
     rw [hl] at h4; cases h4) hw') hq (.inl ⟨hw,hrun⟩) (ih _ _ _ (by simpa using hsz) hK)
   ·exact absurd h1 (hQ _ _ _ (by simp))
  ·refine ⟨fun he=>H.1 ?_,fun i hi=>?_⟩
   ·rcases hr : Region.ready .any (addE s q ops) listed with _|⟨i,l⟩
    ·rfl
    ·have hi : i ∈ Region.ready .any (addE s q ops) listed:=by rw [hr]; simp
     have := (ready_addE.1 hi).1
     rw [he] at this; cases this
   ·have hi' : i ∈ Region.ready .any (addE s q ops) listed := Classical.byContradiction fun hn=>hq (early hsz hi hn)
    exact wpOp_mono (fun a' w' h=>ih _ _ _ (by simpa using hsz) h) (wpOp_addE (H.2 i hi'))
theorem pure_extract {oq : Oper} {x : Operand} {i : Nat} (ho : oq.op = .extract x i) (a : Act) (w : World) (K : Act → World → Prop) (Q : Exit → Act → World → Prop) (hQ : ∀ e a w,e ≠ .normal → ¬ Q e a w) (h : oq.wp P a w K Q) :
  ∃ v,(∀ w,(execOp a.eval oq).run P w = .ok (.value v) w) ∧ K (a.put oq.dst v) w := by
 unfold Oper.wp at h
 cases hx : a.eval x with
 |tuple us =>
  cases hu : us[i]? with
  |some v =>
   refine ⟨v,fun w=>by simp [execOp,ho,hx,Instr.extract,hu],?_⟩
   simpa [execOp,ho,hx,Instr.extract,hu,Oper.upon] using h
  |none=>simp [execOp,ho,hx,Instr.extract,hu,Oper.upon,stuck] at h
 | _=>simp [execOp,ho,hx,Instr.extract,Oper.upon,stuck] at h
def isExtract : Op → Bool
 | .extract _ _=>true
 | _=>false
def isSelect : Op → Bool
 | .select _ _=>true
 | _=>false
def edgeB (ops : Array Oper) (s q : Nat) : Bool := s != q && match ops[q]?,ops[s]? with
 |some oq,some os=>isExtract oq.op && oq.guard.isNone &&
  (oq.after.toList.all fun e=>!Region.binds .any e || os.after.toList.any fun e'=>Region.binds .any e' && e'.on == e.on) &&
  (List.range ops.size).all fun j=>match ops[j]? with
   |some oj=>!isSelect oj.op && (j == q || (oq.after.toList.any fun e=>Region.binds .any e && e.on == j) || (oj.after.toList.any fun e=>Region.binds .any e && e.on == q) || oq.apart ops oj)
   |none=>true
 | _,_=>false
theorem edgeB_ok (h : edgeB ops s q = true) : ∃ oq,EdgeOk (P := P) ops s q oq := by
 unfold edgeB at h
 rw [Bool.and_eq_true] at h
 obtain ⟨h0,h⟩ := h
 split at h
 case h_2=>cases h
 case h_1 _ _ oq os hoq hos =>
  simp only [Bool.and_eq_true] at h
  obtain ⟨⟨⟨h1,h2⟩,h3⟩,h4⟩ := h
  have key : ∀ j oj,ops[j]? = some oj → isSelect oj.op = false ∧ (j = q ∨ (∃ e ∈ oq.after,Region.binds .any e = true ∧ e.on = j) ∨ (∃ e ∈ oj.after,Region.binds .any e = true ∧ e.on = q) ∨ oq.apart ops oj = true) := fun j oj hj=>by
   have := List.all_eq_true.1 h4 j (List.mem_range.2 (Array.getElem?_eq_some_iff.1 hj).1)
   rw [hj] at this
   simp only [Bool.and_eq_true,Bool.not_eq_true',Bool.or_eq_true,beq_iff_eq,List.any_eq_true,Array.mem_toList_iff] at this
   refine ⟨this.1,?_⟩
   rcases this.2 with ((h|h)|h)|h
   ·exact .inl h
   ·exact .inr (.inl h)
   ·exact .inr (.inr (.inl h))
   ·exact .inr (.inr (.inr h))
  refine ⟨oq,⟨by simpa using h0,hoq,fun j o cs b hj hsel=>?_,fun os' hos' e he hb=>?_,fun j oj hj hne hd hw=>?_,by simpa using h2,?_⟩⟩
  ·have := (key j o hj).1
   rw [hsel] at this; cases this
  ·obtain rfl := Option.some.inj (hos.symm.trans hos')
   have := List.all_eq_true.1 h3 e (by simpa using he)
   rw [hb] at this
   simp only [Bool.not_true,Bool.false_or,List.any_eq_true,Bool.and_eq_true,beq_iff_eq] at this
   obtain ⟨e',he',h5,h6⟩ := this
   exact ⟨e',by simpa using he',h5,h6⟩
  ·rcases (key j oj hj).2 with h|⟨e,he,hb,ho⟩|⟨e,he,hb,ho⟩|h
   ·exact absurd h hne
   ·exact absurd ho (hd e he hb)
   ·exact absurd ho (hw e he hb)
   ·exact h
  ·intro a w K Q hQ hh
   cases hop : oq.op with
   |extract x i=>exact pure_extract hop a w K Q hQ hh
   | _=>rw [hop] at h1; cases h1
theorem upon_Q {o : Oper} {a : Act} {K : Act → World → Prop} {Q' Q : Exit → Act → World → Prop} (h : ∀ e a w,Q' e a w → Q e a w) {r : Result Next} (hh : o.upon P a K Q' r) : o.upon P a K Q r := by
 cases r with
 |ok n w' =>
  cases n <;> simp only [Oper.upon] at hh ⊢ <;> first
   |exact hh
   |exact Calls.mono hh fun e w'' he=>by
     cases e with
     |returned v=>exact he
     |panicked c=>exact h _ _ _ he
     |outgrown=>obtain ⟨x,y,hxy⟩ := he; exact ⟨x,y,h _ _ _ hxy⟩
 |halt x w'=>cases x <;> simp only [Oper.upon] at hh ⊢ <;> first|exact h _ _ _ hh|exact hh.elim
theorem wpOp_Q {i : Nat} {a : Act} {w : World} {K K' : Act → World → Prop} {Q' Q : Exit → Act → World → Prop} (h : ∀ e a w,Q' e a w → Q e a w) (hK : ∀ a w,K' a w → K a w) (hh : wpOp P ops Q' i K' a w) : wpOp P ops Q i K a w := by
 have hh := wpOp_mono hK hh
 unfold wpOp at hh ⊢
 split
 ·rename_i ho; rw [ho] at hh; exact hh
 ·rename_i o ho
  rw [ho] at hh
  simp only at hh
  split
  ·rename_i hw
   rw [if_pos hw] at hh
   rcases hh with hh|⟨h1,x,y,h2⟩
   ·exact .inl (upon_Q h hh)
   ·exact .inr ⟨h1,x,y,h _ _ _ h2⟩
  ·rename_i hw
   rw [if_neg hw] at hh
   exact hh
theorem wpAny_Q {Q' Q : Exit → Act → World → Prop} (h : ∀ e a w,Q' e a w → Q e a w) : ∀ (fuel : Nat) (listed : Array Bool) (a : Act) (w : World),wpAny P .any ops Q' fuel listed a w → wpAny P .any ops Q fuel listed a w
 | 0,_,_,_,hh=>⟨hh.1,h _ _ _ hh.2⟩
 |fuel + 1,_,_,_,hh=>⟨fun he=>h _ _ _ (hh.1 he),fun i hi=>wpOp_Q h (fun a' w' h'=>wpAny_Q h fuel _ a' w' h') (hh.2 i hi)⟩
end
def addL : Nat → Nat → List Oper → List Oper
 | _,_,[]=>[]
 | 0,q,o :: l=>behind o q :: l
 |s + 1,q,o :: l=>o :: addL s q l
theorem addL_get : ∀ (s q : Nat) (l : List Oper) (i : Nat),(addL s q l)[i]? = (l[i]?).map fun o=>if i = s then behind o q else o
 | _,_,[],i=>by simp [addL]
 | 0,q,o :: l,0=>by simp [addL]
 | 0,q,o :: l,i + 1=>by simp [addL]
 |s + 1,q,o :: l,0=>by simp [addL]
 |s + 1,q,o :: l,i + 1=>by simp [addL,addL_get s q l i]
theorem addL_arr (s q : Nat) (l : List Oper) : (addL s q l).toArray = addE s q l.toArray := by
 apply Array.ext_getElem?
 intro i
 rw [addE_get]
 simp [addL_get]
section
variable {c : Cx} {N : Nat} {X0 : Nat → Prop} {M : Nat → BV → Prop} {w0 : World} {K : Exit → St → Prop}
def onlyN (K : Exit → St → Prop) : Exit → St → Prop
 | .normal,st=>K .normal st
 | _,_=>False
theorem WP.flowE {id : Nat} {l : List Oper} {st : St} (s q : Nat) (zs : List Nat) (m : Nat) (fl : List Fp) (ds mks gs : List Nat) (hE : edgeB l.toArray s q = true) (hB : flowB (addL s q l).toArray m fl = true)
  (hD : ((List.range m).all fun k=>match dstAt (addL s q l).toArray k with|some d=>ds.contains d|none=>false) = true)
  (hM : ((List.range m).all fun k=>((fpAt fl k).mks.all fun d=>mks.contains d) && ((fpAt fl k).gn.all fun d=>gs.contains d)) = true) (hm : c.P.follows .mixedOrders = true)
  (h : St.runG c.tys c.C N (addL s q l).toArray fl ((st.fzS zs).clean ds mks) ((addL s q l).take m) 0 [] fun acc=>St.runR c.tys c.C N (addL s q l).toArray ((addL s q l).drop m) (((st.fzS zs).clean ds mks).final acc gs) (K .normal)) : WP c N X0 M w0 (.region id l.toArray true) st K := by
 intro hA β a w hs0
 have hs := Sim.fzS hA zs hs0
 generalize st.fzS zs = st at hs h
 have hD0 := flowB_ok hB
 obtain ⟨F,h1,h2⟩ := runF_acc _ _ _ (runF_of_runG _ _ _ h)
 have harr := addL_arr s q l
 have hlen : ((addL s q l).take m).length = m := by
  have := hD0.le
  simp at this ⊢
  omega
 rw [hlen] at h1
 simp only [List.nil_append,Nat.zero_add] at h1 h2
 have hcl0 : ∀ t x,lk t (st.clean ds mks).fr = some x → lk t st.fr = some x ∧ t ∉ ds ∧ ∀ d ∈ mks,x.kill d = x := fun t x hx=>by
  obtain ⟨e1,e2⟩ := hide_fr hx
  obtain ⟨e3,e4⟩ := offK_lk e1
  exact ⟨e3,e4,e2⟩
 have hMk : ∀ k,k < m → (∀ d ∈ (fpAt fl k).mks,d ∈ mks) ∧ ∀ d ∈ (fpAt fl k).gn,d ∈ gs := fun k hk=>by
  have := List.all_eq_true.1 hM k (List.mem_range.2 hk)
  simp only [Bool.and_eq_true,List.all_eq_true] at this
  exact ⟨fun d hd=>List.contains_iff_mem.1 (this.1 d hd),fun d hd=>List.contains_iff_mem.1 (this.2 d hd)⟩
 obtain ⟨oq,hEo⟩ := edgeB_ok (P := c.P) hE
 have hsz : (addL s q l).toArray.size = l.toArray.size:=by rw [harr]; unfold addE; rw [Array.size_modify]
 refine wp_region_any hm (wpAny_Q (Q' := fun e a' w'=>Ok N X0 M w0 (onlyN K e) a' w') (fun e a' w' hk=>?_) _ _ _ _ (wpAny_edge hEo (fun e a' w' hne hk=>?_) _ _ _ _ (by simp) ?_))
 ·cases e with
  |normal=>exact hk
  | _=>obtain ⟨_,_,hf,_⟩ := hk; exact hf.elim
 ·cases e with
  |normal=>exact hne rfl
  | _=>obtain ⟨_,_,hf,_⟩ := hk; exact hf.elim
 rw [← harr,← hsz]
 refine (flow_head (c := c) (K := onlyN K) hA hD0 (base := st.clean ds mks) (F := F) (gs := gs) (fun k o hk ho=>?_) (fun t x hx=>⟨fun k hk e=>?_,fun k hk d hd=>(hcl0 t x hx).2.2 d ((hMk k hk).1 d hd)⟩) (fun t ob hx k hk d hd=>(hide_hp hx).2 d ((hMk k hk).1 d hd)) (fun k hk=>(hMk k hk).2) ?_
  (addL s q l).toArray.size (Array.replicate (addL s q l).toArray.size false) (st.clean ds mks) β a _ (by simp) (fun j _ hj=>?_) ?_ (fun b hb hl=>?_) ?_ (fun t x hx _=>hx) (fun k hk hl=>?_) (fun t ob hx _=>hx) (fun k hk hl=>?_))
 ·have : ((addL s q l).take m)[k]? = some o:=by rw [List.getElem?_take_of_lt hk]; simpa using ho
  exact h2 k o this
 ·have := List.all_eq_true.1 hD k (List.mem_range.2 hk)
  rw [e] at this
  exact (hcl0 t x hx).2.1 (List.contains_iff_mem.1 this)
 ·exact h1
 ·rw [Array.getD_eq_getD_getElem?,Array.getElem?_replicate]; split <;> rfl
 ·have : (List.range (addL s q l).toArray.size).countP (fun j=>!(Array.replicate (addL s q l).toArray.size false).getD j false) = (List.range (addL s q l).toArray.size).countP (fun _=>true) := by
   apply List.countP_congr
   intro j hj
   rw [Array.getD_eq_getD_getElem?,Array.getElem?_replicate]; split <;> simp
  rw [this]; simp
 ·rw [Array.getD_eq_getD_getElem?,Array.getElem?_replicate] at hl
  split at hl <;> cases hl
 ·exact (hs.grow ((Go.RowKit.Below.refl _ _).drew) (fun b _ hb=>.inl hb) hs.x0).less (fun t x hx=>(hcl0 t x hx).1) (fun t ob hx=>(hide_hp hx).1)
 ·rw [Array.getD_eq_getD_getElem?,Array.getElem?_replicate] at hl
  split at hl <;> cases hl
 ·rw [Array.getD_eq_getD_getElem?,Array.getElem?_replicate] at hl
  split at hl <;> cases hl
end
end Go.Vc

namespace Go.Proofs.YtjjbcoigaejoaaaGreat
open Go.Vc
attribute [local irreducible] Go.Vc.WP
attribute [local go_sem] cx0_t cx0_c
attribute [local go_sem] decS_enc decTok_enc decLine_enc oneLine_f line_eta St.fzS addL behind St.runO St.stepO
def kOpens : Ctr := pur (fun args=>aI args 0) (fun k=>[.v (.int .i64 k)]) (fun _=>True) (fun _ k=>.v (.bool (opensK k))) (fun _ _=>[])
def aPk (args : List SV) : List Line × Int := (decLine (aR args 0),aI args 1)
attribute [local go_sem] aPk
def kBlk : Ctr := pur aPk (fun x=>[.sl 4 (x.1.map encLine),.v (.int .i64 x.2)]) (fun x=>x.1.length ≤ 1048576) (fun _ x=>.v (.int .i64 (endOf x.1 x.2))) (fun _ _=>[])
def kElse : Ctr := pur aPk (fun x=>[.sl 4 (x.1.map encLine),.v (.int .i64 x.2)]) (fun x=>x.1.length ≤ 1048576) (fun _ x=>.v (.int .i64 (elseOf x.1 x.2))) (fun _ _=>[])
def kFuns : Ctr := pur (fun args=>decLine (aR args 0)) (fun P=>[.sl 4 (P.map encLine)]) (fun P=>P.length ≤ 1048576) (fun d _=>.own d) (fun d P=>[(d,.sl 3 1 ((funs P P.length).map encI))])
def kFind : Ctr := pur (fun args=>(decLine (aR args 0),aS args 1)) (fun x=>[.sl 4 (x.1.map encLine),.v (.string x.2)]) (fun x=>x.1.length ≤ 1048576) (fun _ x=>.v (.int .i64 (findFn x.1 x.2))) (fun _ _=>[])
theorem opensK_f {k : Int} (h0 : ¬ k = 0) (h3 : ¬ k = 3) (h5 : ¬ k = 5) : opensK k = false:=by simp [opensK,h0,h3,h5]
theorem endOf_out {P : List Line} {k : Int} (h : ¬ (0 ≤ k ∧ k < P.length)) : endOf P k = -1 := if_neg fun q=>h ⟨q.1,q.2.1⟩
theorem endOf_in {P : List Line} {n : Nat} (h : n < P.length) : endOf P n = if opensK P[n].kind = true then endFrom (P.drop n) n 0 else -1 := by
 unfold endOf
 rw [Int.toNat_natCast,kd_lt h]
 by_cases ho : opensK P[n].kind = true
 ·rw [if_pos ⟨by omega,by omega,ho⟩,if_pos ho]
 ·rw [if_neg (fun q=>ho q.2.2),if_neg ho]
theorem elseOf_neg {P : List Line} {k : Int} (h : endOf P k < 0) : elseOf P k = -1 := if_pos (.inl h)
theorem elseOf_kd {P : List Line} {n : Nat} (h : n < P.length) (h3 : ¬ P[n].kind = 3) : elseOf P n = -1 := if_pos (.inr (by rw [Int.toNat_natCast,kd_lt h]; exact h3))
theorem elseOf_go {P : List Line} {n e : Nat} (h : n < P.length) (h3 : P[n].kind = 3) (he : endOf P n = (e : Int)) : elseOf P n = elseGo P e (n + 1) := by
 unfold elseOf
 rw [Int.toNat_natCast,kd_lt h,he,Int.toNat_natCast,if_neg (by omega)]
section
noncomputable def cxOpnI := mkX [] (COk.nil _)
theorem cxOpnI_t : cxOpnI.tys = tys := rfl
theorem cxOpnI_c : cxOpnI.C = [] := rfl
attribute [local go_sem] cxOpnI_t cxOpnI_c
theorem cOpensI : Cn Tryz.prog 101 kOpens := by
 refine Cn.pur Tryz.func101 (by kernel_rfl) rfl fun d x hx=>?_
 rename Int=>k
 refine Holds.go (c := cxOpnI) Tryz.func101 rfl Tryz.results101 Tryz.ntmps101 (by omega) (by simp) rfl ?_
 intro X0 w0
 by_cases h0 : k = 0
 ·have ho : opensK k = true:=by rw [h0]; rfl
  rw [ho]
  (repeat' (first|apply zS|apply zB|((first|apply zR|apply zC|apply zT|apply zE|apply zK);simp only [go_sem,h0])|apply And.intro|intro _))
  all_goals first|omega|rfl|skip
 by_cases h3 : k = 3
 ·have ho : opensK k = true:=by rw [h3]; rfl
  rw [ho]
  (repeat' (first|apply zS|apply zB|((first|apply zR|apply zC|apply zT|apply zE|apply zK);simp only [go_sem,h3])|apply And.intro|intro _))
  all_goals first|omega|rfl|skip
 by_cases h5 : k = 5
 ·have ho : opensK k = true:=by rw [h5]; rfl
  rw [ho]
  (repeat' (first|apply zS|apply zB|((first|apply zR|apply zC|apply zT|apply zE|apply zK);simp only [go_sem,h5])|apply And.intro|intro _))
  all_goals first|omega|rfl|skip
 rw [opensK_f h0 h3 h5]
 (repeat' (first|apply zS|apply zB|((first|apply zR|apply zC|apply zT|apply zE|apply zK);simp only [go_sem,h0,h3,h5])|apply And.intro|intro _))
 all_goals first|omega|rfl|(simp [h0,h3,h5]; done)|skip
end
section
noncomputable def cxBlkI := mkX [(19,k60),(101,kOpens)] (COk.cons c60 (COk.cons cOpensI (COk.nil _)))
theorem cxBlkI_t : cxBlkI.tys = tys := rfl
theorem cxBlkI_c : cxBlkI.C = [(19,k60),(101,kOpens)] := rfl
attribute [local go_sem] cxBlkI_t cxBlkI_c k60 kOpens
set_option maxHeartbeats 4000000
theorem cBlkI : Cn Tryz.prog 83 kBlk := by
 refine Cn.pur Tryz.func83 (by kernel_rfl) rfl fun d x hx=>?_
 obtain ⟨P,k⟩ := x
 simp only at hx ⊢
 refine Holds.go (c := cxBlkI) Tryz.func83 rfl Tryz.results83 Tryz.ntmps83 (by omega) (by simp) rfl ?_
 intro X0 w0
 have lk0 : lk 0 tys = none := rfl
 by_cases hk0 : 0 ≤ k
 rotate_left
 ·rw [endOf_out (P := P) fun q=>hk0 q.1]
  have hk : k < 0:=by omega
  (repeat' (first|apply zS|apply zB|((first|refine WP.regionO (id := 1) ?_); simp only [go_sem,hk0])|((first|apply zR|apply zC|apply zT|apply zE|apply zK);simp only [go_sem,hk0])|apply And.intro|intro _))
  all_goals first|omega|rfl|skip
 by_cases hk1 : k < P.length
 rotate_left
 ·rw [endOf_out (P := P) fun q=>hk1 q.2]
  have hk : ¬ k ≤ (P.length : Int) - 1:=by omega
  have hkm : ¬ k < 0:=by omega
  have hr0 : Go.Vc.rowAt (P.map encLine) k.toNat = [] := by
   unfold Go.Vc.rowAt
   rw [List.getElem?_eq_none (by rw [List.length_map]; omega)]; rfl
  (repeat' (first|apply zS|apply zB|((first|refine WP.regionO (id := 1) ?_); simp only [go_sem,hk0,hk,hkm,hr0])|((first|apply zR|apply zC|apply zT|apply zE|apply zK);simp only [go_sem,hk0,hk,hkm,hr0])|apply And.intro|intro _))
  all_goals first|omega|rfl|skip
 obtain ⟨n,rfl⟩ := Int.eq_ofNat_of_zero_le hk0
 have hn : n < P.length:=by omega
 have h1 := rowAt_map encLine P n hn
 have b1 : (n : Int) ≤ (P.length : Int) - 1:=by omega
 have b0 : (0 : Int) ≤ (n : Int):=by omega
 rw [endOf_in hn]
 cases ho : opensK P[n].kind with
 |false =>
  rw [if_neg (by simp)]
  (repeat' (first|apply zS|apply zB|((first|apply zR|apply zC|apply zT|apply zE|apply zK);simp only [go_sem,h1,encLine,ho,b0,b1])|apply And.intro|intro _))
  all_goals first|omega|rfl|skip
 |true =>
  rw [if_pos rfl]
  (repeat' (first|apply zS|apply zB|((first|apply zR|apply zC|apply zT|apply zE|apply zK);simp only [go_sem,h1,encLine,ho,b0,b1])|apply And.intro|intro _))
  all_goals first|omega|skip
  generalize hE : endFrom (P.drop n) n 0 = E
  refine zL (fun q : Nat × Int=>⟨[(0,.sl 4 (P.map encLine)),(5,.v (.int .i64 q.2)),(6,.v (.int .i64 q.1))],[]⟩)
   (fun q=>q.1 ≤ P.length ∧ -(q.1 : Int) ≤ q.2 ∧ q.2 ≤ q.1 ∧ endFrom (P.drop q.1) q.1 q.2 = E) (fun q=>P.length - q.1) (n,0) ⟨by omega,by simp only; omega,by simp only; omega,hE⟩ ?_ ?_
  ·(simp only [go_sem] <;> (first|(and_intros <;> rfl)|simp))
  rintro ⟨i,o⟩ ⟨hi,ho1,ho2,hF⟩
  simp only at hi ho1 ho2 hF ⊢
  by_cases hlt : i < P.length
  ·have hli : (i : Int) < P.length:=by omega
   have h2 := rowAt_map encLine P i hlt
   rw [endFrom_succ hlt] at hF
   rw [encLine] at h2
   generalize P[i].kind = kk at h2 hF
   cases hop : opensK kk with
   |true =>
    have h7 : ¬ kk = 7 := fun e=>by rw [e] at hop; cases hop
    rw [delta_open hop] at hF
    by_cases hz : o + 1 = 0
    ·rw [if_pos hz] at hF
     subst hF
     (repeat' (first|apply zS|apply zB|((first|apply zR|apply zC|apply zT|apply zE|apply zK);simp only [go_sem,hli,h2,hop,h7,hz])|apply And.intro|intro _))
     all_goals first|omega|rfl|skip
    ·rw [if_neg hz] at hF
     (repeat' (first|apply zS|apply zB|((first|apply zR|apply zC|apply zT|apply zE|apply zK);simp only [go_sem,hli,h2,hop,h7,hz])|apply And.intro|intro _))
     all_goals first|omega|exact ⟨(i + 1,o + 1),⟨by simp only; omega,by simp only; omega,by simp only; omega,hF⟩,by simp only; omega,by (first|(and_intros <;> rfl)|simp)⟩|skip
   |false =>
    by_cases h7 : kk = 7
    ·subst h7
     rw [delta_end] at hF
     by_cases hz : o - 1 = 0
     ·rw [if_pos (by omega)] at hF
      subst hF
      (repeat' (first|apply zS|apply zB|((first|apply zR|apply zC|apply zT|apply zE|apply zK);simp only [go_sem,hli,h2,hop,hz])|apply And.intro|intro _))
      all_goals first|omega|rfl|skip
     ·rw [if_neg (by omega)] at hF
      (repeat' (first|apply zS|apply zB|((first|apply zR|apply zC|apply zT|apply zE|apply zK);simp only [go_sem,hli,h2,hop,hz])|apply And.intro|intro _))
      all_goals first|omega|exact ⟨(i + 1,o - 1),⟨by simp only; omega,by simp only; omega,by simp only; omega,hF⟩,by simp only; omega,by (first|(and_intros <;> rfl)|simp)⟩|skip
    ·rw [delta_else hop h7,Int.add_zero] at hF
     by_cases hz : o = 0
     ·rw [if_pos hz] at hF
      subst hF
      (repeat' (first|apply zS|apply zB|((first|apply zR|apply zC|apply zT|apply zE|apply zK);simp only [go_sem,hli,h2,hop,h7,hz])|apply And.intro|intro _))
      all_goals first|omega|rfl|skip
     ·rw [if_neg hz] at hF
      (repeat' (first|apply zS|apply zB|((first|apply zR|apply zC|apply zT|apply zE|apply zK);simp only [go_sem,hli,h2,hop,h7,hz])|apply And.intro|intro _))
      all_goals first|omega|exact ⟨(i + 1,o),⟨by simp only; omega,by simp only; omega,by simp only; omega,hF⟩,by simp only; omega,by (first|(and_intros <;> rfl)|simp)⟩|skip
  ·have hge : ¬ (i : Int) < P.length:=by omega
   rw [endFrom_end hlt] at hF
   subst hF
   (repeat' (first|apply zS|apply zB|((first|apply zR|apply zC|apply zT|apply zE|apply zK);simp only [go_sem,hge])|apply And.intro|intro _))
   all_goals first|omega|rfl|skip
end
section
noncomputable def cxElsBI := mkX [(83,kBlk)] (COk.cons cBlkI (COk.nil _))
theorem cxElsBI_t : cxElsBI.tys = tys := rfl
theorem cxElsBI_c : cxElsBI.C = [(83,kBlk)] := rfl
attribute [local go_sem] cxElsBI_t cxElsBI_c kBlk
set_option maxHeartbeats 4000000
theorem cElseI : Cn Tryz.prog 86 kElse := by
 refine Cn.pur Tryz.func86 (by kernel_rfl) rfl fun d x hx=>?_
 obtain ⟨P,k⟩ := x
 simp only at hx ⊢
 refine Holds.go (c := cxElsBI) Tryz.func86 rfl Tryz.results86 Tryz.ntmps86 (by omega) (by simp) rfl ?_
 intro X0 w0
 have lk0 : lk 0 tys = none := rfl
 by_cases hneg : endOf P k < 0
 ·rw [elseOf_neg hneg]
  (repeat' (first|apply zS|apply zB|((first|refine WP.regionO (id := 2) ?_); simp only [go_sem,hneg])|((first|apply zR|apply zC|apply zT|apply zE|apply zK);simp only [go_sem,hneg])|apply And.intro|intro _))
  all_goals first|omega|rfl|skip
 have hin := endOf_opens (P := P) (k := k) (by omega)
 obtain ⟨n,rfl⟩ := Int.eq_ofNat_of_zero_le hin.1
 have hn : n < P.length:=by omega
 obtain ⟨e,he,hE,hne⟩ := endOf_nn (P := P) (k := n) (by omega)
 have hoK := hin.2.2
 rw [Int.toNat_natCast] at hoK
 have hel := hE.lt
 have h1 := rowAt_map encLine P n hn
 have he0 : ¬ (e : Int) < 0:=by omega
 by_cases h3 : P[n].kind = 3
 rotate_left
 ·rw [elseOf_kd hn h3]
  (repeat' (first|apply zS|apply zB|((first|apply zR|apply zC|apply zT|apply zE|apply zK);simp only [go_sem,h1,encLine,h3,he,he0])|apply And.intro|intro _))
  all_goals first|omega|rfl|skip
 rw [elseOf_go hn h3 he]
 (repeat' (first|apply zS|apply zB|((first|apply zR|apply zC|apply zT|apply zE|apply zK);simp only [go_sem,h1,encLine,h3,he,he0])|apply And.intro|intro _))
 all_goals first|omega|skip
 generalize hG : elseGo P e (n + 1) = G
 refine zL (fun i : Nat=>⟨[(0,.sl 4 (P.map encLine)),(5,.v (.int .i64 e)),(6,.v (.int .i64 i))],[]⟩)
  (fun i=>n < i ∧ i ≤ P.length ∧ elseGo P e i = G) (fun i=>P.length + 1 - i) (n + 1) ⟨by omega,by omega,hG⟩ ?_ ?_
 ·(simp only [go_sem] <;> (first|(and_intros <;> rfl)|simp))
 rintro i ⟨hi0,hi1,hF⟩
 by_cases hlt : i < e
 ·have hli : (i : Int) < (e : Int):=by omega
  have hiP : i < P.length:=by omega
  have h2 := rowAt_map encLine P i hiP
  rw [encLine] at h2
  have hkd := kd_lt hiP
  generalize P[i].kind = kk at h2 hkd
  by_cases h4 : kk = 4
  ·subst h4
   rw [elseGo_hit hlt hkd] at hF
   subst hF
   (repeat' (first|apply zS|apply zB|((first|apply zR|apply zC|apply zT|apply zE|apply zK);simp only [go_sem,hli,h2])|apply And.intro|intro _))
   all_goals first|omega|rfl|skip
  ·by_cases h35 : kk = 3 ∨ kk = 5
   ·have hopi : opensK (kd P i) = true := opensK_iff.2 (by rw [hkd]; omega)
    obtain ⟨e2,g1,g2,g3,g4⟩ := hE.nest hoK hi0 hlt hopi
    rw [elseGo_skip hlt (by rw [hkd]; exact h35) (by rw [g1]; omega),g1,Int.toNat_natCast] at hF
    have g5 : (0 : Int) ≤ (e2 : Int):=by omega
    rcases h35 with h35|h35
    ·subst h35
     (repeat' (first|apply zS|apply zB|((first|apply zR|apply zC|apply zT|apply zE|apply zK);simp only [go_sem,hli,h2,g1,g5])|apply And.intro|intro _))
     all_goals first|omega|exact ⟨e2 + 1,⟨by omega,by omega,hF⟩,by omega,by (first|(and_intros <;> rfl)|simp)⟩|skip
    ·subst h35
     (repeat' (first|apply zS|apply zB|((first|apply zR|apply zC|apply zT|apply zE|apply zK);simp only [go_sem,hli,h2,g1,g5])|apply And.intro|intro _))
     all_goals first|omega|exact ⟨e2 + 1,⟨by omega,by omega,hF⟩,by omega,by (first|(and_intros <;> rfl)|simp)⟩|skip
   ·rw [elseGo_next hlt (by rw [hkd]; exact h4) (fun q=>h35 (by rw [← hkd]; exact q.1))] at hF
    have n3 : ¬ kk = 3 := fun e=>h35 (.inl e)
    have n5 : ¬ kk = 5 := fun e=>h35 (.inr e)
    (repeat' (first|apply zS|apply zB|((first|apply zR|apply zC|apply zT|apply zE|apply zK);simp only [go_sem,hli,h2,h4,n3,n5])|apply And.intro|intro _))
    all_goals first|omega|exact ⟨i + 1,⟨by omega,by omega,hF⟩,by omega,by (first|(and_intros <;> rfl)|simp)⟩|skip
 ·have hge : ¬ (i : Int) < (e : Int):=by omega
  rw [elseGo_end hlt] at hF
  subst hF
  (repeat' (first|apply zS|apply zB|((first|apply zR|apply zC|apply zT|apply zE|apply zK);simp only [go_sem,hge])|apply And.intro|intro _))
  all_goals first|omega|rfl|skip
end
section
noncomputable def cxFunsI := mkX [] (COk.nil _)
theorem cxFunsI_t : cxFunsI.tys = tys := rfl
theorem cxFunsI_c : cxFunsI.C = [] := rfl
attribute [local go_sem] cxFunsI_t cxFunsI_c
theorem cFunsI : Cn Tryz.prog 81 kFuns := by
 refine Cn.pur Tryz.func81 (by kernel_rfl) rfl fun d x hx=>?_
 rename List Line=>P
 refine Holds.go (c := cxFunsI) Tryz.func81 rfl Tryz.results81 Tryz.ntmps81 (by omega) (by simp) rfl ?_
 intro X0 w0
 (repeat' (first|apply zS|apply zB|((first|apply zR|apply zC|apply zT|apply zE|apply zK);simp only [go_sem])|apply And.intro|intro _))
 all_goals first|omega|skip
 refine zL (fun i : Nat=>⟨[(3,.own 6),(7,.sl 4 (P.map encLine)),(8,.v (.int .i64 P.length)),(9,.v (.int .i64 i))],[(6,.sl 3 1 ((funs P i).map encI))]⟩) (fun i=>i ≤ P.length) (fun i=>P.length - i) 0 (by simp) ?_ ?_
 ·(simp only [go_sem] <;> (first|(and_intros <;> rfl)|simp))
 intro i hi
 have hfl := funs_len P i
 have hfs := funs_succ P i
 by_cases hlt : i < P.length
 ·have hli : (i : Int) < P.length:=by omega
  have h2 := rowAt_map encLine P i hlt
  rw [encLine] at h2
  rw [kd_lt hlt] at hfs
  generalize P[i].kind = kk at h2 hfs
  by_cases h0 : kk = 0
  ·rw [if_pos h0] at hfs
   (repeat' (first|apply zS|apply zB|((first|apply zR|apply zC|apply zT|apply zE|apply zK);simp only [go_sem,hli,h2,h0])|apply And.intro|intro _))
   all_goals first|omega|exact ⟨i + 1,by omega,by omega,by rw [hfs,List.map_append]; (first|(and_intros <;> rfl)|simp)⟩|skip
  ·rw [if_neg h0,List.append_nil] at hfs
   (repeat' (first|apply zS|apply zB|((first|apply zR|apply zC|apply zT|apply zE|apply zK);simp only [go_sem,hli,h2,h0])|apply And.intro|intro _))
   all_goals first|omega|exact ⟨i + 1,by omega,by omega,by rw [hfs]; (first|(and_intros <;> rfl)|simp)⟩|skip
 ·have hge : ¬ (i : Int) < P.length:=by omega
  obtain rfl : i = P.length:=by omega
  (repeat' (first|apply zS|apply zB|((first|apply zR|apply zC|apply zT|apply zE|apply zK);simp only [go_sem,hge])|apply And.intro|intro _))
  all_goals first|omega|rfl|skip
theorem cFindI : Cn Tryz.prog 84 kFind := by
 refine Cn.pur Tryz.func84 (by kernel_rfl) rfl fun d x hx=>?_
 obtain ⟨P,s⟩ := x
 simp only at hx ⊢
 refine Holds.go (c := cxFunsI) Tryz.func84 rfl Tryz.results84 Tryz.ntmps84 (by omega) (by simp) rfl ?_
 intro X0 w0
 (repeat' (first|apply zS|apply zB|((first|apply zR|apply zC|apply zT|apply zE|apply zK);simp only [go_sem])|apply And.intro|intro _))
 all_goals first|omega|skip
 refine zL (fun i : Nat=>⟨[(1,.v (.string s)),(7,.sl 4 (P.map encLine)),(8,.v (.int .i64 P.length)),(9,.v (.int .i64 i))],[]⟩) (fun k=>k ≤ P.length ∧ ∀ i (hi : i < P.length),i < k → isFn s P[i] = false) (fun i=>P.length - i) 0 (by simp) ?_ ?_
 ·(simp only [go_sem] <;> (first|(and_intros <;> rfl)|simp))
 rintro k ⟨hk,hf⟩
 by_cases hlt : k < P.length
 ·have hli : (k : Int) < P.length:=by omega
  have h2 := rowAt_map encLine P k hlt
  rw [encLine] at h2
  have hit : P[k].kind = 0 → P[k].name = s → findFn P s = k := fun a b=>firstIdx_hit hlt hf (by simp [isFn,a,b])
  have hno : ¬ (P[k].kind = 0 ∧ P[k].name = s) → ∀ i (hi : i < P.length),i < k + 1 → isFn s P[i] = false := fun q i hi hik=>by
   rcases Nat.lt_or_ge i k with h|h
   ·exact hf i hi h
   ·have : i = k:=by omega
    subst this
    cases hb : isFn s P[i] with
    |false=>rfl
    |true=>exact absurd (by simpa [isFn] using hb) q
  generalize P[k].kind = kk at h2 hit hno
  generalize P[k].name = nn at h2 hit hno
  by_cases h0 : kk = 0
  ·by_cases hs : nn = s
   ·rw [hit h0 hs]
    (repeat' (first|apply zS|apply zB|((first|apply zR|apply zC|apply zT|apply zE|apply zK);simp only [go_sem,hli,h2,h0,hs])|apply And.intro|intro _))
    all_goals first|omega|rfl|skip
   ·have hnx := hno fun q=>hs q.2
    (repeat' (first|apply zS|apply zB|((first|apply zR|apply zC|apply zT|apply zE|apply zK);simp only [go_sem,hli,h2,h0,hs])|apply And.intro|intro _))
    all_goals first|omega|exact ⟨k + 1,⟨by omega,hnx⟩,by omega,by (first|(and_intros <;> rfl)|simp)⟩|skip
  ·have hnx := hno fun q=>h0 q.1
   (repeat' (first|apply zS|apply zB|((first|apply zR|apply zC|apply zT|apply zE|apply zK);simp only [go_sem,hli,h2,h0])|apply And.intro|intro _))
   all_goals first|omega|exact ⟨k + 1,⟨by omega,hnx⟩,by omega,by (first|(and_intros <;> rfl)|simp)⟩|skip
 ·have hge : ¬ (k : Int) < P.length:=by omega
  rw [show findFn P s = -1 from firstIdx_none fun i hi=>hf i hi (by omega)]
  (repeat' (first|apply zS|apply zB|((first|apply zR|apply zC|apply zT|apply zE|apply zK);simp only [go_sem,hge])|apply And.intro|intro _))
  all_goals first|omega|rfl|skip
end
end Go.Proofs.YtjjbcoigaejoaaaGreat

namespace Go.Proofs.YtjjbcoigaejoaaaGreat
open Go.Vc
attribute [local irreducible] Go.Vc.WP
attribute [local go_sem] cx0_t cx0_c
attribute [local go_sem] decS_enc
def strIs (s : ByteArray) (x : ByteArray) : Bool := decide (x = s)
def kIdxS : Ctr := pur (fun args=>(decS (aR args 0),aS args 1)) (fun x=>[.sl 1 (x.1.map encS),.v (.string x.2)]) (fun x=>x.1.length ≤ 4398046511104) (fun _ x=>.v (.int .i64 (firstIdx (strIs x.2) x.1))) (fun _ _=>[])
section
noncomputable def cxIsS := mkX [] (COk.nil _)
theorem cxIsS_t : cxIsS.tys = tys := rfl
theorem cxIsS_c : cxIsS.C = [] := rfl
attribute [local go_sem] cxIsS_t cxIsS_c
theorem cIdxSI : Cn Tryz.prog 114 kIdxS := by
 refine Cn.pur Tryz.func114 (by kernel_rfl) rfl fun d x hx=>?_
 obtain ⟨L,s⟩ := x
 simp only at hx ⊢
 refine Holds.go (c := cxIsS) Tryz.func114 rfl Tryz.results114 Tryz.ntmps114 (by omega) (by simp) rfl ?_
 intro X0 w0
 (repeat' (first|apply zS|apply zB|((first|apply zR|apply zC|apply zT|apply zE|apply zK);simp only [go_sem])|apply And.intro|intro _))
 all_goals first|omega|skip
 refine zL (fun k : Nat=>⟨[(0,.sl 1 (L.map encS)),(1,.v (.string s)),(7,.v (.int .i64 L.length)),(8,.v (.int .i64 k))],[]⟩) (fun k=>k ≤ L.length ∧ ∀ i (hi : i < L.length),i < k → strIs s L[i] = false) (fun k=>L.length - k) 0 (by simp) ?_ ?_
 ·(simp only [go_sem] <;> (first|(and_intros <;> rfl)|simp))
 intro k ⟨hk,hf⟩
 by_cases hlt : k < L.length
 ·have hli : (k : Int) < L.length:=by omega
  have h1 := rowAt_map encS L k hlt
  (repeat' (first|apply zS|apply zB|((first|apply zR|apply zC|apply zT|apply zE|apply zK);simp only [go_sem,hli,h1,encS])|apply And.intro|intro _))
  all_goals first|omega|skip
  ·rename_i he
   rw [show firstIdx (strIs s) L = k from firstIdx_hit hlt hf (by simp [strIs,he])]
  ·rename_i hne
   refine ⟨k + 1,⟨by omega,fun i hi hik=>?_⟩,by omega,by (first|(and_intros <;> rfl)|simp)⟩
   rcases Nat.lt_or_ge i k with h|h
   ·exact hf i hi h
   ·have : i = k:=by omega
    subst this
    first|(simp [strIs,hne]; done)|(simp only [strIs,decide_eq_false_iff_not]; exact fun e=>hne e.symm)
 ·have hge : ¬ (k : Int) < L.length:=by omega
  (repeat' (first|apply zS|apply zB|((first|apply zR|apply zC|apply zT|apply zE|apply zK);simp only [go_sem,hge])|apply And.intro|intro _))
  all_goals first|omega|skip
  rw [show firstIdx (strIs s) L = -1 from firstIdx_none fun i hi=>hf i hi (by omega)]
theorem cIdxSS : Cn Tryz.prog 79 kIdxS := by
 refine Cn.pur Tryz.func79 (by kernel_rfl) rfl fun d x hx=>?_
 obtain ⟨L,s⟩ := x
 simp only at hx ⊢
 refine Holds.go (c := cxIsS) Tryz.func79 rfl Tryz.results79 Tryz.ntmps79 (by omega) (by simp) rfl ?_
 intro X0 w0
 (repeat' (first|apply zS|apply zB|((first|apply zR|apply zC|apply zT|apply zE|apply zK);simp only [go_sem])|apply And.intro|intro _))
 all_goals first|omega|skip
 refine zL (fun k : Nat=>⟨[(0,.sl 1 (L.map encS)),(1,.v (.string s)),(5,.v (.int .i64 k))],[]⟩) (fun k=>k ≤ L.length ∧ ∀ i (hi : i < L.length),i < k → strIs s L[i] = false) (fun k=>L.length - k) 0 (by simp) ?_ ?_
 ·(simp only [go_sem] <;> (first|(and_intros <;> rfl)|simp))
 intro k ⟨hk,hf⟩
 by_cases hlt : k < L.length
 ·have hli : (k : Int) < L.length:=by omega
  have h1 := rowAt_map encS L k hlt
  (repeat' (first|apply zS|apply zB|((first|apply zR|apply zC|apply zT|apply zE|apply zK);simp only [go_sem,hli,h1,encS])|apply And.intro|intro _))
  all_goals first|omega|skip
  ·rename_i he
   rw [show firstIdx (strIs s) L = k from firstIdx_hit hlt hf (by simp [strIs,he])]
  ·rename_i hne
   refine ⟨k + 1,⟨by omega,fun i hi hik=>?_⟩,by omega,by (first|(and_intros <;> rfl)|simp)⟩
   rcases Nat.lt_or_ge i k with h|h
   ·exact hf i hi h
   ·have : i = k:=by omega
    subst this
    first|(simp [strIs,hne]; done)|(simp only [strIs,decide_eq_false_iff_not]; exact fun e=>hne e.symm)
 ·have hge : ¬ (k : Int) < L.length:=by omega
  (repeat' (first|apply zS|apply zB|((first|apply zR|apply zC|apply zT|apply zE|apply zK);simp only [go_sem,hge])|apply And.intro|intro _))
  all_goals first|omega|skip
  rw [show firstIdx (strIs s) L = -1 from firstIdx_none fun i hi=>hf i hi (by omega)]
end
theorem firstIdx_mem {L : List ByteArray} {s : ByteArray} : (0 ≤ firstIdx (strIs s) L) = (s ∈ L) := propext ⟨fun h=>by
 obtain ⟨k,hk,_,h2⟩ := firstIdx_pos (p := strIs s) (L := L) (by omega)
 have : L[k] = s:=by simpa [strIs] using h2
 rw [← this]; exact List.getElem_mem hk,fun h=>by
 rcases Int.lt_or_le (firstIdx (strIs s) L) 0 with hn|hn
 ·have := firstIdx_neg hn s h
  simp [strIs] at this
 ·exact hn⟩
def kHasS : Ctr := pur (fun args=>(decS (aR args 0),aS args 1)) (fun x=>[.sl 1 (x.1.map encS),.v (.string x.2)]) (fun x=>x.1.length ≤ 4398046511104) (fun _ x=>.v (.bool (decide (x.2 ∈ x.1)))) (fun _ _=>[])
section
noncomputable def cxHasS := mkX [(114,kIdxS)] (COk.cons cIdxSI (COk.nil _))
theorem cxHasS_t : cxHasS.tys = tys := rfl
theorem cxHasS_c : cxHasS.C = [(114,kIdxS)] := rfl
attribute [local go_sem] cxHasS_t cxHasS_c kIdxS
theorem cHasS : Cn Tryz.prog 110 kHasS := by
 refine Cn.pur Tryz.func110 (by kernel_rfl) rfl fun d x hx=>?_
 obtain ⟨L,s⟩ := x
 simp only at hx ⊢
 have hm := firstIdx_mem (L := L) (s := s)
 refine Holds.go (c := cxHasS) Tryz.func110 rfl Tryz.results110 Tryz.ntmps110 (by omega) (by simp) rfl ?_
 intro X0 w0
 (repeat' (first|apply zS|apply zB|((first|apply zR|apply zC|apply zT|apply zE|apply zK);simp only [go_sem,hm])|apply And.intro|intro _))
 all_goals first|omega|skip
end
end Go.Proofs.YtjjbcoigaejoaaaGreat

namespace Go.Proofs.YtjjbcoigaejoaaaGreat
def slashed (s : ByteArray) : Prop := 2 < s.size ∧ s[s.size - 2]! = 47
instance (s : ByteArray) : Decidable (slashed s):=by unfold slashed; infer_instance
end Go.Proofs.YtjjbcoigaejoaaaGreat

namespace Go.Proofs
end Go.Proofs

namespace Go.Proofs.YtjjbcoigaejoaaaGreat
end Go.Proofs.YtjjbcoigaejoaaaGreat

namespace Go.Vc
section
variable {P : Program} {f : FuncId}
theorem Holds.val {args : List SV} {res : SV} {x : Value} (hR : ∀ (w : World) (X : Nat → Prop) (β : Nat → BV),R w X β res x)
  (h : ∀ (w : World) (X : Nat → Prop) (vs : List Value),Grd P w → vs.length = args.length → (∀ (i : Nat) (c : SV) (u : Value),args[i]? = some c → vs[i]? = some u → R w X (fun _=>nilB) c u) →
   Calls P f vs.toArray w fun e w'=>e = .returned x ∧ Go.RowKit.Below w.heap.size w w') : Holds P f args res [] := by
 intro w X vs hG hX hl ha
 refine (h w X vs hG hl ha).mono fun e w' ⟨he,hb⟩=>?_
 exact ⟨x,fun _=>nilB,he,hb,fun _=>rfl,hR _ _ _,⟨fun id ob hi=>(by cases hi),fun i j oi oj b hi=>(by cases hi)⟩,fun id ob b hi=>(by cases hi)⟩
theorem R.sl_form {w : World} {X : Nat → Prop} {β : Nat → BV} {s : Nat} {rows : List (List SV)} {v : Value} (h : R w X β (.sl s rows) v) :
  (rows = [] ∧ ∃ p cap,v = .slice p 0 cap) ∨ ∃ b off cap,v = .slice (some ⟨b,off,none⟩) rows.length cap ∧ ¬ X b ∧ b < w.heap.size ∧ rows.length ≤ cap ∧
   ∀ (i k : Nat) (row : List SV) (c : SV),rows[i]? = some row → row[k]? = some c → ∃ u,w.cell? ⟨b,off + (i * s + k),none⟩ = some u ∧ Rp w X c u := by
 have h := h.sl_inv
 cases h with
 |nil s p cap=>exact .inl ⟨rfl,p,cap,rfl⟩
 |sl b off cap us h1 h2 h3 h4 h5 h6 h7=>exact .inr ⟨b,off,cap,rfl,h1,h2,h3,fun i k row c hr hc=>⟨us i k,h5 i k row c hr hc,h7 i k row c hr hc⟩⟩
theorem ObR.sl_form {w : World} {X : Nat → Prop} {β : Nat → BV} {v : BV} {e s : Nat} {rows : List (List SV)} (h : ObR w X β v (.sl e s rows)) :
  (v = nilB ∧ rows = []) ∨ ∃ (b cap : Nat) (cur : Array Value) (us : Nat → Nat → Value),v = plain (.slice (some ⟨b,0,none⟩) rows.length cap) ∧ w.heap[b]? = some (.cells cur e (0,0)) ∧ rows.length ≤ cap ∧ cap ≤ maxLen ∧ cur.size = cap * s ∧
   (∀ (i : Nat) (row : List SV),rows[i]? = some row → row.length = s) ∧ ∀ (i k : Nat) (row : List SV) (c : SV),rows[i]? = some row → row[k]? = some c → cur[i * s + k]? = some (us i k) ∧ (us i k).oneCell' = true ∧ Rp w X c (us i k) := by
 cases h with
 |nil e s h=>exact .inl ⟨h,rfl⟩
 |sl b cap cur us hv hh h1 h2 h3 h4 h5 h6 h7=>exact .inr ⟨b,cap,cur,us,hv,hh,h1,h2,h3,h4,fun i k row c a b=>⟨h5 i k row c a b,h6 i k row c a b,h7 i k row c a b⟩⟩
structure Upd (w w' : World) (b e : Nat) (cur cur' : Array Value) : Prop where
 os : w'.os = w.os
 tape : w'.tape = w.tape
 output : w'.output = w.output
 size : w.heap.size ≤ w'.heap.size
 cells : w'.heap[b]? = some (.cells cur' e (0,0))
 len : cur'.size = cur.size
 other : ∀ k,k < w.heap.size → k ≠ b → w'.heap[k]? = w.heap[k]?
def vrows (rows : List (List Value)) : List (List SV) := rows.map fun r=>r.map SV.v
theorem vrows_get {rows : List (List Value)} {i k : Nat} {row : List SV} {c : SV} (hr : (vrows rows)[i]? = some row) (hc : row[k]? = some c) : ∃ r u,rows[i]? = some r ∧ r[k]? = some u ∧ c = .v u := by
 unfold vrows at hr
 rw [List.getElem?_map] at hr
 cases hx : rows[i]? with
 |none=>rw [hx] at hr; cases hr
 |some r =>
  rw [hx] at hr
  simp only [Option.map_some,Option.some.injEq] at hr
  subst hr
  rw [List.getElem?_map] at hc
  cases hu : r[k]? with
  |none=>rw [hu] at hc; cases hc
  |some u=>rw [hu] at hc; simp only [Option.map_some,Option.some.injEq] at hc; exact ⟨r,u,rfl,hu,hc.symm⟩
theorem vrows_len {rows : List (List Value)} {i s : Nat} {row : List SV} (hr : (vrows rows)[i]? = some row) (h : ∀ r ∈ rows,r.length = s) : row.length = s := by
 unfold vrows at hr
 rw [List.getElem?_map] at hr
 cases hx : rows[i]? with
 |none=>rw [hx] at hr; cases hr
 |some r =>
  rw [hx] at hr
  simp only [Option.map_some,Option.some.injEq] at hr
  subst hr
  simpa using h r (List.mem_of_getElem? hx)
theorem HoldsL.cells {e s : Nat} {rows rows' : List (List Value)} {rest : List SV} (hl0 : ∀ r ∈ rows,r.length = s) (hlr : rows'.length = rows.length) (hl1 : ∀ r ∈ rows',r.length = s)
  (hone : ∀ r ∈ rows',∀ u ∈ r,u.oneCell' = true)
  (hnil : rows = [] → ∀ (w : World) (us : List Value),us.length = rest.length → (∀ (i : Nat) (c : SV) (u : Value),rest[i]? = some c → us[i]? = some u → R w (fun _=>False) (fun _=>nilB) c u) →
   Calls P f ((Value.slice none 0 0 :: us).toArray) w fun en w'=>en = .returned (.tuple #[]) ∧ Go.RowKit.Below w.heap.size w w')
  (hrest : ∀ c ∈ rest,(∃ g,c = .fn g []) ∨ ∃ x,c = .v x)
  (h : ∀ (w : World) (b cap : Nat) (cur : Array Value) (us : List Value),Grd P w → w.heap[b]? = some (.cells cur e (0,0)) → rows.length ≤ cap → cap ≤ maxLen → cur.size = cap * s →
   (∀ (i k : Nat) (r : List Value) (u : Value),rows[i]? = some r → r[k]? = some u → cur[i * s + k]? = some u ∧ u.oneCell' = true) → us.length = rest.length →
   (∀ (i : Nat) (c : SV) (u : Value),rest[i]? = some c → us[i]? = some u → R w (fun _=>False) (fun _=>nilB) c u) →
   Calls P f ((Value.slice (some ⟨b,0,none⟩) rows.length cap :: us).toArray) w fun en w'=>en = .returned (.tuple #[]) ∧ ∃ cur',Upd w w' b e cur cur' ∧
    ∀ (i k : Nat) (r : List Value) (u : Value),rows'[i]? = some r → r[k]? = some u → cur'[i * s + k]? = some u) :
  HoldsL P f (.own 1000000 :: rest) [(1000000,.sl e s (vrows rows))] (.tup []) [] [(1000000,.sl e s (vrows rows'))] := by
 intro w X β vs hG hβ hX hl ha hobs hlent
 match vs,hl,ha with
 |v0 :: us,hl,ha =>
  have hv0 := (ha 0 _ v0 rfl rfl).own_inv
  subst hv0
  have hus : us.length = rest.length:=by simpa using hl
  have haR : ∀ (i : Nat) (c : SV) (u : Value),rest[i]? = some c → us[i]? = some u → R w (fun _=>False) (fun _=>nilB) c u := fun i c u hc hu=>by
   have h1 := ha (i + 1) c u (by simpa using hc) (by simpa using hu)
   rcases hrest c (List.mem_of_getElem? hc) with ⟨g,rfl⟩|⟨x,rfl⟩
   ·obtain ⟨cs,rfl,hcl,_⟩ := h1.fn_inv
    have : cs = [] := List.eq_nil_of_length_eq_zero (by simpa using hcl.symm)
    subst this
    exact .fn rfl fun k c u hk=>(by simp at hk)
   ·have := h1.v_inv; subst this; exact .p (.v _)
  have hO := hobs.1 1000000 (.sl e s (vrows rows)) (by simp [lk])
  have hnoblk : ∀ {id ob},lk id ([] ++ [(1000000,Ob.sl e s (vrows rows'))]) = some ob → id = 1000000 ∧ ob = .sl e s (vrows rows') := fun {id ob} hi=>by
   simp only [List.nil_append,lk] at hi
   split at hi
   ·rename_i he; cases hi; exact ⟨he,rfl⟩
   ·cases hi
  have inj : ∀ (β' : Nat → BV) (i j : Nat) (oi oj : Ob) (b : Nat),lk i ([] ++ [(1000000,Ob.sl e s (vrows rows'))]) = some oi → lk j ([] ++ [(1000000,Ob.sl e s (vrows rows'))]) = some oj → (β' i).ft b → (β' j).ft b → i = j :=
   fun β' i j oi oj b hi hj _ _=>(hnoblk hi).1.trans (hnoblk hj).1.symm
  have nilc : rows = [] → β 1000000 = nilB → Calls P f (((β 1000000).val :: us).toArray) w fun en w'=>∃ v β',en = .returned v ∧ w'.os = w.os ∧ w'.tape = w.tape ∧ w'.output = w.output ∧ w.heap.size ≤ w'.heap.size ∧
   (∀ b,b < w.heap.size → (¬ ∃ id ob,lk id [(1000000,Ob.sl e s (vrows rows))] = some ob ∧ (β id).ft b) → w'.heap[b]? = w.heap[b]?) ∧ (∀ i,(β' i).val.oneCell' = true) ∧ (∀ i ob,1000000 ≤ i → lk i [(1000000,Ob.sl e s (vrows rows))] = some ob → (β' i).val = (β i).val) ∧
   R w' (XX X β' ([] ++ [(1000000,Ob.sl e s (vrows rows'))])) β' (.tup []) v ∧ Obs w' X β' ([] ++ [(1000000,Ob.sl e s (vrows rows'))]) ∧
   ∀ id ob b,lk id ([] ++ [(1000000,Ob.sl e s (vrows rows'))]) = some ob → (β' id).ft b → w.heap.size ≤ b ∨ ∃ k o,lk k [(1000000,Ob.sl e s (vrows rows))] = some o ∧ (β k).ft b := fun hr hb0=>by
   rw [hb0]
   refine (hnil hr w us hus haR).mono fun en w' ⟨he,hb⟩=>?_
   have hr' : rows' = [] := List.eq_nil_of_length_eq_zero (by rw [hlr,hr]; rfl)
   refine ⟨_,β,he,hb.os,hb.tape,hb.output,hb.size,fun b hlt _=>hb.block b hlt,hβ,fun _ _ _ _=>rfl,.tup (us := []) rfl fun k c u hk=>(by simp at hk),⟨fun id ob hi=>?_,inj β⟩,fun id ob b hi hb=>.inr ⟨1000000,.sl e s (vrows rows),by simp [lk],by rw [(hnoblk hi).1] at hb; exact hb⟩⟩
   obtain ⟨rfl,rfl⟩ := hnoblk hi
   rw [hr',hb0]
   exact .nil e s rfl
  rcases hO.sl_form with ⟨h0,hrows⟩|⟨b,cap,cur,us0,hv,hh,h1,h2,h3,h4,h5⟩
  ·exact nilc (by simpa [vrows] using hrows) h0
  ·skip
   have hbv' : β 1000000 = plain (.slice (some ⟨b,0,none⟩) rows.length cap):=by rw [hv]; simp [vrows]
   have hcell : ∀ (i k : Nat) (r : List Value) (u : Value),rows[i]? = some r → r[k]? = some u → cur[i * s + k]? = some u ∧ u.oneCell' = true := fun i k r u hr hu=>by
    have e1 : (vrows rows)[i]? = some (r.map SV.v):=by unfold vrows; rw [List.getElem?_map,hr]; rfl
    have e2 : (r.map SV.v)[k]? = some (.v u):=by rw [List.getElem?_map,hu]; rfl
    obtain ⟨e5,e4,e3⟩ := h5 i k _ _ e1 e2
    generalize us0 i k = y at e3 e4 e5
    cases e3
    exact ⟨e5,e4⟩
   rw [hbv']
   refine (h w b cap cur us hG hh (by simpa [vrows] using h1) h2 h3 hcell hus haR).mono fun en w' ⟨he,cur',hU,hc'⟩=>?_
   have hblk : (β 1000000).ft b:=by rw [hbv']; rfl
   refine ⟨_,β,he,hU.os,hU.tape,hU.output,hU.size,fun k hk hn=>hU.other k hk fun hkb=>hn ⟨1000000,.sl e s (vrows rows),by simp [lk],by rw [hkb]; exact hblk⟩,hβ,fun _ _ _ _=>rfl,.tup (us := []) rfl fun k c u hk=>(by simp at hk),⟨fun id ob hi=>?_,inj β⟩,fun id ob b hi hb=>.inr ⟨1000000,.sl e s (vrows rows),by simp [lk],by rw [(hnoblk hi).1] at hb; exact hb⟩⟩
   obtain ⟨rfl,rfl⟩ := hnoblk hi
   rw [hbv']
   refine .sl b cap cur' (fun i k=>(cur'[i * s + k]?).getD undef) (by simp [vrows,hlr]) hU.cells (by simpa [vrows,hlr] using h1) h2 (by rw [hU.len]; exact h3) (fun i row hr=>vrows_len hr hl1) (fun i k row c hr hc=>?_) (fun i k row c hr hc=>?_) (fun i k row c hr hc=>?_)
   ·obtain ⟨r,u,g1,g2,rfl⟩ := vrows_get hr hc
    rw [hc' i k r u g1 g2]; rfl
   ·obtain ⟨r,u,g1,g2,rfl⟩ := vrows_get hr hc
    rw [hc' i k r u g1 g2]; exact hone r (List.mem_of_getElem? g1) u (List.mem_of_getElem? g2)
   ·obtain ⟨r,u,g1,g2,rfl⟩ := vrows_get hr hc
    rw [hc' i k r u g1 g2]; exact .v u
end
section
variable {P : Program} {w : World}
theorem Grd.block (h : Grd P w) (h0 : P.globals.size ≠ 0) : ∃ W0 : World, W0.ShapedOpen P ∧ ((P.globalNamed "internal/strconv.uint64pow10").isSome = true → W0.var? P "internal/strconv.uint64pow10" = some (pow10s.map fun z => Value.int .u64 z).toArray) ∧ ∀ b, b < P.globals.size → w.heap[b]? = W0.heap[b]? := by
 rcases h with h|⟨_,h⟩
 ·exact absurd h h0
 ·exact h
end
end Go.Vc

namespace Go.Proofs.YtjjbcoigaejoaaaGreat
open Go.Vc
attribute [local irreducible] Go.Vc.WP
attribute [local go_sem] cx0_t cx0_c
open Go.RowKit (Below)
end Go.Proofs.YtjjbcoigaejoaaaGreat

namespace Go.Proofs.YtjjbcoigaejoaaaGreat
open Go.Vc
attribute [local irreducible] Go.Vc.WP
attribute [local go_sem] cx0_t cx0_c
open Go.RowKit (Below)
end Go.Proofs.YtjjbcoigaejoaaaGreat

namespace Go.Proofs.YtjjbcoigaejoaaaGreat
open Go.Vc
attribute [local irreducible] Go.Vc.WP
attribute [local go_sem] cx0_t cx0_c
attribute [local go_sem] decNode_enc oneFrame_enc
def stkA (args : List SV) (i : Nat) : List Node := match args[i]? with
 |some (.agg [.sl _ rows])=>decNode rows
 | _=>[]
theorem stNode_frOk {N : List Node} {k : Nat} {x : Node} (h : frOk (nodeFr x) = false) : stNode N k x = false := by
 cases hs : stNode N k x with
 |false=>rfl
 |true=>rw [(stNode_iff.1 hs).2.2.1] at h; cases h
theorem stNode_par {N : List Node} {k : Nat} {x : Node} (h : x.parent < -1 ∨ (k : Int) - 1 < x.parent) : stNode N k x = false := by
 cases hs : stNode N k x with
 |false=>rfl
 |true=>have := stNode_iff.1 hs; omega
def kFrOk : Ctr := pur (fun args=>oneFrame (aC args 0)) (fun f=>[.agg (encFrame f)]) (fun f=>f.name.size ≤ 1099511627776) (fun _ f=>.v (.bool (frOk f))) (fun _ _=>[])
section
noncomputable def cxFrI := mkX [(92,kNameOk),(19,k60)] (COk.cons cNameOkI (COk.cons c60 (COk.nil _)))
theorem cxFrI_t : cxFrI.tys = tys := rfl
theorem cxFrI_c : cxFrI.C = [(92,kNameOk),(19,k60)] := rfl
attribute [local go_sem] cxFrI_t cxFrI_c kNameOk k60
theorem cFrOkI : Cn Tryz.prog 66 kFrOk := by
 refine Cn.pur Tryz.func66 (by kernel_rfl) rfl fun d x hx=>?_
 refine Holds.go (c := cxFrI) Tryz.func66 rfl Tryz.results66 Tryz.ntmps66 (by omega) (by simp) rfl ?_
 intro X0 w0
 (repeat' (first|apply zS|apply zB|((first|apply zR|apply zC|apply zT|apply zE|apply zK);simp only [go_sem,encFrame])|apply And.intro|intro _))
 all_goals first|omega|skip
 rw [frOk,Bool.and_assoc]
end
section
noncomputable def cxFrS := mkX [(80,kNameOk),(15,k60)] (COk.cons cNameOkS (COk.cons c58 (COk.nil _)))
theorem cxFrS_t : cxFrS.tys = tys := rfl
theorem cxFrS_c : cxFrS.C = [(80,kNameOk),(15,k60)] := rfl
attribute [local go_sem] cxFrS_t cxFrS_c kNameOk k60
theorem cFrOkS : Cn Tryz.prog 56 kFrOk := by
 refine Cn.pur Tryz.func56 (by kernel_rfl) rfl fun d x hx=>?_
 refine Holds.go (c := cxFrS) Tryz.func56 rfl Tryz.results56 Tryz.ntmps56 (by omega) (by simp) rfl ?_
 intro X0 w0
 (repeat' (first|apply zS|apply zB|((first|apply zR|apply zC|apply zT|apply zE|apply zK);simp only [go_sem,encFrame])|apply And.intro|intro _))
 all_goals first|omega|skip
 rw [frOk,Bool.and_assoc]
end
theorem oneFrame_ab (a : ByteArray) (b : Int) : oneFrame [.v (.string a),.v (.int .i64 b)] = ⟨a,b⟩ := rfl
theorem oneNode_abc (p : Int) (a : ByteArray) (b : Int) : oneNode [.v (.int .i64 p),.v (.string a),.v (.int .i64 b)] = ⟨p,a,b⟩ := rfl
def wfN (N : List Node) : Prop := N.length ≤ 4398046511104 ∧ ∀ x ∈ N,x.name.size ≤ 1099511627776
theorem wfN.nm {N : List Node} (h : wfN N) {k : Nat} (hk : k < N.length) : N[k].name.size ≤ 1099511627776 := h.2 _ (List.getElem_mem hk)
def kStOk : Ctr := pur (fun args=>stkA args 0) (fun N=>[.agg [.sl 3 (N.map encNode)]]) wfN (fun _ N=>.v (.bool (stacksOk N))) (fun _ _=>[])
attribute [local go_sem] stkA oneFrame_ab oneNode_abc
theorem noFr {N : List Node} {k : Nat} (hk : k < N.length) (h : (N[k].parent < -1 ∨ (k : Int) - 1 < N[k].parent) ∨ frOk ⟨N[k].name,N[k].line⟩ = false) : stacksOk N = false := by
 refine stacksOk_bad hk ?_
 rcases h with h|h
 ·exact stNode_par h
 ·exact stNode_frOk h
theorem node_eq {a b : Node} (h : a.parent = b.parent ∧ a.name = b.name ∧ a.line = b.line) : a = b := by
 obtain ⟨p,n,l⟩ := a
 obtain ⟨p',n',l'⟩ := b
 simp only at h
 obtain ⟨rfl,rfl,rfl⟩ := h
 rfl
theorem node_ne {a b : Node} (h : ¬ a.parent = b.parent ∨ ¬ a.name = b.name ∨ ¬ a.line = b.line) : a ≠ b := fun e=>by
 subst e
 rcases h with h|h|h <;> exact h rfl
theorem rowAt_take (rows : List (List SV)) {k i : Nat} (h : i < k) : Go.Vc.rowAt (rows.take k) i = Go.Vc.rowAt rows i := by
 unfold Go.Vc.rowAt
 rw [List.getElem?_take_of_lt h]
section
noncomputable def cxSoS := mkX [(56,kFrOk),(15,k60)] (COk.cons cFrOkS (COk.cons c58 (COk.nil _)))
theorem cxSoS_t : cxSoS.tys = tys := rfl
theorem cxSoS_c : cxSoS.C = [(56,kFrOk),(15,k60)] := rfl
attribute [local go_sem] cxSoS_t cxSoS_c kFrOk k60
theorem cStOkS : Cn Tryz.prog 54 kStOk := by
 refine Cn.pur Tryz.func54 (by kernel_rfl) rfl fun d x hx=>?_
 rename List Node=>N
 have hN := hx.1
 refine Holds.go (c := cxSoS) Tryz.func54 rfl Tryz.results54 Tryz.ntmps54 (by omega) (by simp) rfl ?_
 intro X0 w0
 (repeat' (first|apply zS|apply zB|((first|apply zR|apply zC|apply zT|apply zE|apply zK| refine zD 11 (by decide +kernel) (by kernel_rfl) ?_); simp only [go_sem])|apply And.intro|intro _))
 refine zL (fun k : Nat=>⟨[(1,.ptr 1 0 0 0),(3,.v (.int .i64 k))],[(1,.box 26 [.sl 3 (N.map encNode)])]⟩) (fun k=>k ≤ N.length ∧ ∀ j (hj : j < N.length),j < k → stNode N j N[j] = true) (fun k=>N.length - k) 0 (by simp) ?_ ?_
 ·(simp only [go_sem] <;> (first|(and_intros <;> rfl)|simp))
 intro k ⟨hk,hf⟩
 by_cases hlt : k < N.length
 ·have h1 := rowAt_map encNode N k hlt
  have hnm := hx.nm hlt
  (repeat' (first|apply zS|apply zB|((first|apply zR|apply zC|apply zT|apply zE|apply zK| refine zD 11 (by decide +kernel) (by kernel_rfl) ?_); simp only [go_sem,h1,encNode,encFrame])|apply And.intro|intro _))
  all_goals first|omega|skip
  ·rename_i h
   rw [noFr hlt h]
  rename_i h
  refine zL (fun i : Nat=>⟨[(1,.ptr 1 0 0 0),(3,.v (.int .i64 k)),(4,.v (.int .i64 i))],[(1,.box 26 [.sl 3 (N.map encNode)])]⟩) (fun i=>i ≤ k ∧ ∀ j (hj : j < N.length),j < i → N[j] ≠ N[k]) (fun i=>k - i) 0 (by simp) ?_ ?_
  ·(simp only [go_sem] <;> (first|(and_intros <;> rfl)|simp))
  intro i ⟨hi,hg⟩
  by_cases hlt2 : i < k
  ·have h2 := rowAt_map encNode N i (by omega)
   (repeat' (first|apply zS|apply zB|((first|apply zR|apply zC|apply zT|apply zE|apply zK| refine zD 11 (by decide +kernel) (by kernel_rfl) ?_); simp only [go_sem,h1,h2,encNode])|apply And.intro|intro _))
   all_goals first|omega|skip
   ·rename_i he
    rw [stacksOk_bad hlt (stNode_dup hlt hlt2 (node_eq he))]
   ·rename_i he
    refine ⟨i + 1,⟨by omega,fun j hj hji=>?_⟩,by omega,by (first|(and_intros <;> rfl)|simp)⟩
    rcases Nat.lt_or_ge j i with hh|hh
    ·exact hg j hj hh
    ·have : j = i:=by omega
     subst this
     exact node_ne he
  ·(repeat' (first|apply zS|apply zB|((first|apply zR|apply zC|apply zT|apply zE|apply zK| refine zD 11 (by decide +kernel) (by kernel_rfl) ?_); simp only [go_sem])|apply And.intro|intro _))
   all_goals first|omega|skip
   refine ⟨k + 1,⟨by omega,fun j hj hjk=>?_⟩,by omega,by (first|(and_intros <;> rfl)|simp)⟩
   rcases Nat.lt_or_ge j k with hh|hh
   ·exact hf j hj hh
   ·have : j = k:=by omega
    subst this
    exact stNode_ok h.1.1 h.1.2 h.2 fun i hi hij=>hg i hi (by omega)
 ·(repeat' (first|apply zS|apply zB|((first|apply zR|apply zC|apply zT|apply zE|apply zK| refine zD 11 (by decide +kernel) (by kernel_rfl) ?_); simp only [go_sem])|apply And.intro|intro _))
  all_goals first|omega|skip
  rw [stacksOk_all fun j hj=>hf j hj (by omega)]
end
section
noncomputable def cxSoI := mkX [(66,kFrOk),(19,k60)] (COk.cons cFrOkI (COk.cons c60 (COk.nil _)))
theorem cxSoI_t : cxSoI.tys = tys := rfl
theorem cxSoI_c : cxSoI.C = [(66,kFrOk),(19,k60)] := rfl
attribute [local go_sem] cxSoI_t cxSoI_c kFrOk k60
theorem cStOkI : Cn Tryz.prog 64 kStOk := by
 refine Cn.pur Tryz.func64 (by kernel_rfl) rfl fun d x hx=>?_
 rename List Node=>N
 have hN := hx.1
 refine Holds.go (c := cxSoI) Tryz.func64 rfl Tryz.results64 Tryz.ntmps64 (by omega) (by simp) rfl ?_
 intro X0 w0
 (repeat' (first|apply zS|apply zB|((first|apply zR|apply zC|apply zT|apply zE|apply zK);simp only [go_sem])|apply And.intro|intro _))
 all_goals first|omega|skip
 refine zL (fun k : Nat=>⟨[(1,.ptr 1 0 0 0),(8,.sl 3 (N.map encNode)),(9,.v (.int .i64 N.length)),(10,.v (.int .i64 k))],[(1,.box 26 [.sl 3 (N.map encNode)])]⟩) (fun k=>k ≤ N.length ∧ ∀ j (hj : j < N.length),j < k → stNode N j N[j] = true) (fun k=>N.length - k) 0 (by simp) ?_ ?_
 ·(simp only [go_sem] <;> (first|(and_intros <;> rfl)|simp))
 intro k ⟨hk,hf⟩
 by_cases hlt : k < N.length
 ·have h1 := rowAt_map encNode N k hlt
  have hnm := hx.nm hlt
  (repeat' (first|apply zS|apply zB|((first|apply zR|apply zC|apply zT|apply zE|apply zK);simp only [go_sem,h1,encNode,encFrame])|apply And.intro|intro _))
  all_goals first|omega|skip
  ·rename_i h
   rw [noFr hlt h]
  rename_i h
  have hl : ((N.map encNode).take k).length = k:=by rw [List.length_take,List.length_map]; omega
  refine zL (fun i : Nat=>⟨[(1,.ptr 1 0 0 0),(4,.ptr 4 0 0 0),(8,.sl 3 (N.map encNode)),(9,.v (.int .i64 N.length)),(10,.v (.int .i64 k)),(30,.sl 3 ((N.map encNode).take k)),(31,.v (.int .i64 k)),(32,.v (.int .i64 i))],[(1,.box 26 [.sl 3 (N.map encNode)]),(4,.box 96 (encNode N[k]))]⟩) (fun i=>i ≤ k ∧ ∀ j (hj : j < N.length),j < i → N[j] ≠ N[k]) (fun i=>k - i) 0 (by simp) ?_ ?_
  ·(simp only [go_sem,hl,encNode] <;> (first|(and_intros <;> rfl)|simp))
  intro i ⟨hi,hg⟩
  by_cases hlt2 : i < k
  ·have h2 := rowAt_map encNode N i (by omega)
   have h3 := rowAt_take (N.map encNode) hlt2
   rw [h2] at h3
   (repeat' (first|apply zS|apply zB|((first|apply zR|apply zC|apply zT|apply zE|apply zK);simp only [go_sem,h1,h3,hl,encNode])|apply And.intro|intro _))
   all_goals first|omega|skip
   ·rename_i he
    rw [stacksOk_bad hlt (stNode_dup hlt hlt2 (node_eq ⟨he.1.symm,he.2.1.symm,he.2.2.symm⟩))]
   ·rename_i he
    refine ⟨i + 1,⟨by omega,fun j hj hji=>?_⟩,by omega,by (first|(and_intros <;> rfl)|simp)⟩
    rcases Nat.lt_or_ge j i with hh|hh
    ·exact hg j hj hh
    ·have : j = i:=by omega
     subst this
     exact Ne.symm (node_ne he)
  ·(repeat' (first|apply zS|apply zB|((first|apply zR|apply zC|apply zT|apply zE|apply zK);simp only [go_sem])|apply And.intro|intro _))
   all_goals first|omega|skip
   refine ⟨k + 1,⟨by omega,fun j hj hjk=>?_⟩,by omega,by (first|(and_intros <;> rfl)|simp)⟩
   rcases Nat.lt_or_ge j k with hh|hh
   ·exact hf j hj hh
   ·have : j = k:=by omega
    subst this
    exact stNode_ok h.1.1 h.1.2 h.2 fun i hi hij=>hg i hi (by omega)
 ·(repeat' (first|apply zS|apply zB|((first|apply zR|apply zC|apply zT|apply zE|apply zK);simp only [go_sem])|apply And.intro|intro _))
  all_goals first|omega|skip
  rw [stacksOk_all fun j hj=>hf j hj (by omega)]
end
def kChild : Ctr := pur (fun args=>(stkA args 0,aI args 1,oneFrame (aC args 2))) (fun x=>[.agg [.sl 3 (x.1.map encNode)],.v (.int .i64 x.2.1),.agg (encFrame x.2.2)]) (fun x=>x.1.length ≤ 4398046511104) (fun _ x=>.v (.int .i64 (child x.1 x.2.1 x.2.2))) (fun _ _=>[])
theorem hit_yes {N : List Node} {p : Int} {f : Frame} {k : Nat} (hk : k < N.length) (hf : ∀ j (hj : j < N.length),j < k → hitNode p f N[j] = false) (h : N[k].parent = p ∧ N[k].name = f.name ∧ N[k].line = f.line) : child N p f = k :=
 firstIdx_hit hk hf (by
  obtain ⟨a,b⟩ := f
  simp only at h
  simp [hitNode,nodeFr,h])
theorem hit_no {p : Int} {f : Frame} {x : Node} (h : ¬ x.parent = p ∨ ¬ x.name = f.name ∨ ¬ x.line = f.line) : hitNode p f x = false := by
 obtain ⟨a,b⟩ := f
 simp only at h
 simp only [hitNode,nodeFr,Bool.and_eq_false_iff,decide_eq_false_iff_not,Frame.mk.injEq,not_and]
 rcases h with h|h|h
 ·exact .inl h
 ·exact .inr fun e=>absurd e h
 ·exact .inr fun _=>h
theorem cChildS : Cn Tryz.prog 57 kChild := by
 refine Cn.pur Tryz.func57 (by kernel_rfl) rfl fun d x hx=>?_
 obtain ⟨N,p,f⟩ := x
 simp only at hx ⊢
 refine Holds.go (c := cx0) Tryz.func57 rfl Tryz.results57 Tryz.ntmps57 (by omega) (by simp) rfl ?_
 intro X0 w0
 (repeat' (first|apply zS|apply zB|((first|apply zR|apply zC|apply zT|apply zE|apply zK| refine zD 18 (by decide +kernel) (by kernel_rfl) ?_); simp only [go_sem,encFrame])|apply And.intro|intro _))
 all_goals first|omega|skip
 refine zL (fun k : Nat=>⟨[(1,.v (.int .i64 p)),(3,.ptr 3 0 0 0),(5,.ptr 5 0 0 0),(7,.v (.int .i64 k))],[(3,.box 26 [.sl 3 (N.map encNode)]),(5,.box 90 (encFrame f))]⟩) (fun k=>k ≤ N.length ∧ ∀ j (hj : j < N.length),j < k → hitNode p f N[j] = false) (fun k=>N.length - k) 0 (by simp) ?_ ?_
 ·(simp only [go_sem,encFrame] <;> (first|(and_intros <;> rfl)|simp))
 intro k ⟨hk,hf⟩
 by_cases hlt : k < N.length
 ·have h1 := rowAt_map encNode N k hlt
  (repeat' (first|apply zS|apply zB|((first|apply zR|apply zC|apply zT|apply zE|apply zK| refine zD 18 (by decide +kernel) (by kernel_rfl) ?_); simp only [go_sem,h1,encNode,encFrame])|apply And.intro|intro _))
  all_goals first|omega|skip
  ·rename_i he
   rw [hit_yes hlt hf he]
  ·rename_i he
   refine ⟨k + 1,⟨by omega,fun j hj hji=>?_⟩,by omega,by (first|(and_intros <;> rfl)|simp)⟩
   rcases Nat.lt_or_ge j k with hh|hh
   ·exact hf j hj hh
   ·have : j = k:=by omega
    subst this
    exact hit_no he
 ·(repeat' (first|apply zS|apply zB|((first|apply zR|apply zC|apply zT|apply zE|apply zK| refine zD 18 (by decide +kernel) (by kernel_rfl) ?_); simp only [go_sem])|apply And.intro|intro _))
  all_goals first|omega|skip
  rw [show child N p f = -1 from firstIdx_none fun i hi=>hf i hi (by omega)]
theorem cChildI : Cn Tryz.prog 67 kChild := by
 refine Cn.pur Tryz.func67 (by kernel_rfl) rfl fun d x hx=>?_
 obtain ⟨N,p,f⟩ := x
 simp only at hx ⊢
 refine Holds.go (c := cx0) Tryz.func67 rfl Tryz.results67 Tryz.ntmps67 (by omega) (by simp) rfl ?_
 intro X0 w0
 (repeat' (first|apply zS|apply zB|((first|apply zR|apply zC|apply zT|apply zE|apply zK);simp only [go_sem,encFrame])|apply And.intro|intro _))
 all_goals first|omega|skip
 refine zL (fun k : Nat=>⟨[(1,.v (.int .i64 p)),(5,.ptr 5 0 0 0),(10,.sl 3 (N.map encNode)),(11,.v (.int .i64 N.length)),(12,.v (.int .i64 k))],[(5,.box 90 (encFrame f))]⟩) (fun k=>k ≤ N.length ∧ ∀ j (hj : j < N.length),j < k → hitNode p f N[j] = false) (fun k=>N.length - k) 0 (by simp) ?_ ?_
 ·(simp only [go_sem,encFrame] <;> (first|(and_intros <;> rfl)|simp))
 intro k ⟨hk,hf⟩
 by_cases hlt : k < N.length
 ·have h1 := rowAt_map encNode N k hlt
  (repeat' (first|apply zS|apply zB|((first|apply zR|apply zC|apply zT|apply zE|apply zK);simp only [go_sem,h1,encNode,encFrame])|apply And.intro|intro _))
  all_goals first|omega|skip
  ·rename_i he
   rw [hit_yes hlt hf he]
  ·rename_i he
   refine ⟨k + 1,⟨by omega,fun j hj hji=>?_⟩,by omega,by (first|(and_intros <;> rfl)|simp)⟩
   rcases Nat.lt_or_ge j k with hh|hh
   ·exact hf j hj hh
   ·have : j = k:=by omega
    subst this
    exact hit_no he
 ·(repeat' (first|apply zS|apply zB|((first|apply zR|apply zC|apply zT|apply zE|apply zK);simp only [go_sem])|apply And.intro|intro _))
  all_goals first|omega|skip
  rw [show child N p f = -1 from firstIdx_none fun i hi=>hf i hi (by omega)]
theorem rlNode {N : List Node} {row : List SV} (h : row ∈ N.map encNode) : row.length = 3 := by
 obtain ⟨x,_,rfl⟩ := List.mem_map.1 h; rfl
theorem rlI {N : List Int} {row : List SV} (h : row ∈ N.map encI) : row.length = 1 := by
 obtain ⟨x,_,rfl⟩ := List.mem_map.1 h; rfl
def kCopyStk : Ctr := pur (fun args=>stkA args 0) (fun N=>[.agg [.sl 3 (N.map encNode)]]) (fun N=>N.length ≤ 4398046511104) (fun d _=>.agg [.own d]) (fun d N=>[(d,.sl 96 3 (N.map encNode))])
theorem cCopyStkS : Cn Tryz.prog 55 kCopyStk := by
 refine Cn.pur Tryz.func55 (by kernel_rfl) rfl fun d x hx=>?_
 rename List Node=>N
 refine Holds.go (c := cx0) Tryz.func55 rfl Tryz.results55 Tryz.ntmps55 (by omega) (by simp) rfl ?_
 intro X0 w0
 (repeat' (first|apply zS|apply zB|((first|apply zR|apply zC|apply zT|apply zE|apply zK);simp only [go_sem])|apply And.intro|intro _))
 all_goals first|omega|exact rlNode ‹_›|exact ⟨_,_,rfl,_,_,rfl,rfl⟩|skip
theorem cCopyStkI : Cn Tryz.prog 65 kCopyStk := by
 refine Cn.pur Tryz.func65 (by kernel_rfl) rfl fun d x hx=>?_
 rename List Node=>N
 refine Holds.go (c := cx0) Tryz.func65 rfl Tryz.results65 Tryz.ntmps65 (by omega) (by simp) rfl ?_
 intro X0 w0
 (repeat' (first|apply zS|apply zB|((first|apply zR|apply zC|apply zT|apply zE|apply zK);simp only [go_sem])|apply And.intro|intro _))
 all_goals first|omega|exact rlNode ‹_›|exact ⟨_,_,rfl,_,_,rfl,rfl⟩|skip
end Go.Proofs.YtjjbcoigaejoaaaGreat

namespace Go.Proofs.YtjjbcoigaejoaaaGreat
open Go.Vc
attribute [local irreducible] Go.Vc.WP
attribute [local go_sem] cx0_t cx0_c
attribute [local go_sem] decNode_enc decFrame_enc oneFrame_enc stkA oneFrame_ab oneNode_abc decI_enc decS_enc
section
end
section
attribute [local go_sem] kNameOk k60
end
section
attribute [local go_sem] kFrOk
end
end Go.Proofs.YtjjbcoigaejoaaaGreat

namespace Go.Proofs.YtjjbcoigaejoaaaGreat
open Go.Vc
attribute [local irreducible] Go.Vc.WP
attribute [local go_sem] cx0_t cx0_c
attribute [local go_sem] decTok_enc
theorem oneTok_f (k n : Int) (s : ByteArray) : oneTok [.v (.int .i64 k),.v (.int .i64 n),.v (.string s)] = ⟨k,n,s⟩ := rfl
attribute [local go_sem] oneTok_f
def smTok (t : Tok) : Prop := t.name.size ≤ 1099511627776
def smToks (L : List Tok) : Prop := L.length ≤ 1048576 ∧ ∀ t ∈ L,smTok t
def kTokOk : Ctr := pur (fun args=>oneTok (aC args 0)) (fun x=>[.agg [.v (.int .i64 x.kind),.v (.int .i64 x.num),.v (.string x.name)]]) smTok (fun _ x=>.v (.bool (tokOk x))) (fun _ _=>[])
def kArity : Ctr := pur (fun args=>oneTok (aC args 0)) (fun x=>[.agg [.v (.int .i64 x.kind),.v (.int .i64 x.num),.v (.string x.name)]]) smTok (fun _ x=>.v (.int .i64 (arity x))) (fun _ _=>[])
def kEnd : Ctr := pur (fun args=>(decTok (aR args 0),aI args 1)) (fun x=>[.sl 3 (x.1.map encTok),.v (.int .i64 x.2)]) (fun x=>smToks x.1) (fun _ x=>.v (.int .i64 (exprEnd x.1 x.2))) (fun _ _=>[])
def kExOk : Ctr := pur (fun args=>decTok (aR args 0)) (fun x=>[.sl 3 (x.map encTok)]) smToks (fun _ x=>.v (.bool (exprOk x))) (fun _ _=>[])
theorem tokOk_0 (n : Int) (s : ByteArray) : tokOk ⟨0,n,s⟩ = (decide (0 ≤ n) && decide (n ≤ 999) && decide (s = ⟨#[]⟩)) := rfl
theorem tokOk_1 (n : Int) (s : ByteArray) : tokOk ⟨1,n,s⟩ = ((n == 0) && nameOk s) := rfl
theorem tokOk_7 (n : Int) (s : ByteArray) : tokOk ⟨7,n,s⟩ = (decide (0 ≤ n) && decide (n ≤ 4) && nameOk s) := rfl
theorem tokOk_o {k n : Int} {s : ByteArray} (h0 : ¬ k = 0) (h1 : ¬ k = 1) (h7 : ¬ k = 7) : tokOk ⟨k,n,s⟩ = (decide (2 ≤ k) && decide (k ≤ 6) && (n == 0) && decide (s = ⟨#[]⟩)) := by
 unfold tokOk; rw [if_neg h0,if_neg h1,if_neg h7]; rfl
section
noncomputable def cxTkI := mkX [(19,k60),(92,kNameOk)] (COk.cons c60 (COk.cons cNameOkI (COk.nil _)))
theorem cxTkI_t : cxTkI.tys = tys := rfl
theorem cxTkI_c : cxTkI.C = [(19,k60),(92,kNameOk)] := rfl
attribute [local go_sem] cxTkI_t cxTkI_c k60 kNameOk
theorem cTokOkI : Cn Tryz.prog 115 kTokOk := by
 refine Cn.pur Tryz.func115 (by kernel_rfl) rfl fun d x hx=>?_
 obtain ⟨k,n,s⟩ := x
 unfold smTok at hx
 simp only at hx
 refine Holds.go (c := cxTkI) Tryz.func115 rfl Tryz.results115 Tryz.ntmps115 (by omega) (by simp) rfl ?_
 intro X0 w0
 by_cases h0 : k = 0
 ·subst h0
  rw [tokOk_0]
  (repeat' (first|apply zS|apply zB|((first|apply zR|apply zC|apply zT|apply zE|apply zK);simp only [go_sem])|apply And.intro|intro _))
  all_goals first|omega|skip
 ·by_cases h7 : k = 7
  ·subst h7
   rw [tokOk_7]
   (repeat' (first|apply zS|apply zB|((first|apply zR|apply zC|apply zT|apply zE|apply zK);simp only [go_sem])|apply And.intro|intro _))
   all_goals first|omega|skip
  ·by_cases h1 : k = 1
   ·subst h1
    rw [tokOk_1]
    (repeat' (first|apply zS|apply zB|((first|apply zR|apply zC|apply zT|apply zE|apply zK);simp only [go_sem])|apply And.intro|intro _))
    all_goals first|omega|skip
   ·rw [tokOk_o h0 h1 h7]
    (repeat' (first|apply zS|apply zB|((first|apply zR|apply zC|apply zT|apply zE|apply zK);simp only [go_sem,h0,h1,h7])|apply And.intro|intro _))
    all_goals first|omega|skip
end
section
noncomputable def cxTkS := mkX [(15,k60),(80,kNameOk)] (COk.cons c58 (COk.cons cNameOkS (COk.nil _)))
theorem cxTkS_t : cxTkS.tys = tys := rfl
theorem cxTkS_c : cxTkS.C = [(15,k60),(80,kNameOk)] := rfl
attribute [local go_sem] cxTkS_t cxTkS_c k60 kNameOk
theorem cTokOkS : Cn Tryz.prog 108 kTokOk := by
 refine Cn.pur Tryz.func108 (by kernel_rfl) rfl fun d x hx=>?_
 obtain ⟨k,n,s⟩ := x
 unfold smTok at hx
 simp only at hx
 refine Holds.go (c := cxTkS) Tryz.func108 rfl Tryz.results108 Tryz.ntmps108 (by omega) (by simp) rfl ?_
 intro X0 w0
 by_cases h0 : k = 0
 ·subst h0
  rw [tokOk_0]
  (repeat' (first|apply zS|apply zB|((first|apply zR|apply zC|apply zT|apply zE|apply zK);simp only [go_sem])|apply And.intro|intro _))
  all_goals first|omega|skip
 ·by_cases h7 : k = 7
  ·subst h7
   rw [tokOk_7]
   (repeat' (first|apply zS|apply zB|((first|apply zR|apply zC|apply zT|apply zE|apply zK);simp only [go_sem])|apply And.intro|intro _))
   all_goals first|omega|skip
  ·by_cases h1 : k = 1
   ·subst h1
    rw [tokOk_1]
    (repeat' (first|apply zS|apply zB|((first|apply zR|apply zC|apply zT|apply zE|apply zK);simp only [go_sem])|apply And.intro|intro _))
    all_goals first|omega|skip
   ·rw [tokOk_o h0 h1 h7]
    by_cases hr : 0 ≤ k ∧ k ≤ 7
    ·have e1 : decide (2 ≤ k) = true:=by simp; omega
     have e2 : decide (k ≤ 6) = true:=by simp; omega
     have e3 := hr.1
     have e4 := hr.2
     rw [e1,e2]
     (repeat' (first|apply zS|apply zB|((first|apply zR|apply zC|apply zT|apply zE|apply zK);simp only [go_sem,h0,h1,h7,e3,e4])|apply And.intro|intro _))
     all_goals first|omega|skip
    ·have e : (decide (2 ≤ k) && decide (k ≤ 6)) = false:=by simp; omega
     have e3 : (decide (0 ≤ k) && decide (k ≤ 7)) = false:=by simp; omega
     rw [e]
     (repeat' (first|apply zS|apply zB|((first|apply zR|apply zC|apply zT|apply zE|apply zK);simp only [go_sem,h0,h1,h7,e3])|apply And.intro|intro _))
     all_goals first|omega|skip
end
section
noncomputable def cxArI := mkX [(115,kTokOk)] (COk.cons cTokOkI (COk.nil _))
theorem cxArI_t : cxArI.tys = tys := rfl
theorem cxArI_c : cxArI.C = [(115,kTokOk)] := rfl
attribute [local go_sem] cxArI_t cxArI_c kTokOk
theorem cArityI : Cn Tryz.prog 112 kArity := by
 refine Cn.pur Tryz.func112 (by kernel_rfl) rfl fun d x hx=>?_
 obtain ⟨k,n,s⟩ := x
 unfold smTok at hx
 simp only at hx
 refine Holds.go (c := cxArI) Tryz.func112 rfl Tryz.results112 Tryz.ntmps112 (by omega) (by simp) rfl ?_
 intro X0 w0
 cases h : tokOk ⟨k,n,s⟩ with
 |false =>
  have e : arity ⟨k,n,s⟩ = -1:=by unfold arity; rw [h]; rfl
  rw [e]
  (repeat' (first|apply zS|apply zB|((first|apply zR|apply zC|apply zT|apply zE|apply zK);simp only [go_sem,h])|apply And.intro|intro _))
  all_goals first|omega|exact hx|skip
 |true =>
  have e : arity ⟨k,n,s⟩ = (arN ⟨k,n,s⟩ : Int):=by unfold arity; rw [h]; rfl
  rw [e]
  have hc := tokOk_cases h
  simp only at hc
  by_cases h7 : k = 7
  ·have e2 : (arN ⟨k,n,s⟩ : Int) = n:=by unfold arN; rw [if_pos h7]; show ((n.toNat : Nat) : Int) = n; omega
   rw [e2]
   subst h7
   (repeat' (first|apply zS|apply zB|((first|apply zR|apply zC|apply zT|apply zE|apply zK);simp only [go_sem,h])|apply And.intro|intro _))
   all_goals first|omega|exact hx|skip
  ·by_cases h01 : k = 0 ∨ k = 1
   ·have e2 : (arN ⟨k,n,s⟩ : Int) = 0:=by unfold arN; rw [if_neg h7,if_pos h01]; rfl
    rw [e2]
    (repeat' (first|apply zS|apply zB|((first|apply zR|apply zC|apply zT|apply zE|apply zK);simp only [go_sem,h,h7,h01])|apply And.intro|intro _))
    all_goals first|omega|exact hx|skip
   ·have e2 : (arN ⟨k,n,s⟩ : Int) = 2:=by unfold arN; rw [if_neg h7,if_neg h01]; rfl
    rw [e2]
    (repeat' (first|apply zS|apply zB|((first|apply zR|apply zC|apply zT|apply zE|apply zK);simp only [go_sem,h,h7,h01])|apply And.intro|intro _))
    all_goals first|omega|exact hx|skip
end
section
noncomputable def cxArS := mkX [(108,kTokOk)] (COk.cons cTokOkS (COk.nil _))
theorem cxArS_t : cxArS.tys = tys := rfl
theorem cxArS_c : cxArS.C = [(108,kTokOk)] := rfl
attribute [local go_sem] cxArS_t cxArS_c kTokOk
theorem cArityS : Cn Tryz.prog 97 kArity := by
 refine Cn.pur Tryz.func97 (by kernel_rfl) rfl fun d x hx=>?_
 obtain ⟨k,n,s⟩ := x
 unfold smTok at hx
 simp only at hx
 refine Holds.go (c := cxArS) Tryz.func97 rfl Tryz.results97 Tryz.ntmps97 (by omega) (by simp) rfl ?_
 intro X0 w0
 cases h : tokOk ⟨k,n,s⟩ with
 |false =>
  have e : arity ⟨k,n,s⟩ = -1:=by unfold arity; rw [h]; rfl
  rw [e]
  (repeat' (first|apply zS|apply zB|((first|apply zR|apply zC|apply zT|apply zE|apply zK);simp only [go_sem,h])|apply And.intro|intro _))
  all_goals first|omega|exact hx|skip
 |true =>
  have e : arity ⟨k,n,s⟩ = (arN ⟨k,n,s⟩ : Int):=by unfold arity; rw [h]; rfl
  rw [e]
  have hc := tokOk_cases h
  simp only at hc
  by_cases h7 : k = 7
  ·have e2 : (arN ⟨k,n,s⟩ : Int) = n:=by unfold arN; rw [if_pos h7]; show ((n.toNat : Nat) : Int) = n; omega
   rw [e2]
   subst h7
   (repeat' (first|apply zS|apply zB|((first|apply zR|apply zC|apply zT|apply zE|apply zK);simp only [go_sem,h])|apply And.intro|intro _))
   all_goals first|omega|exact hx|skip
  ·by_cases h01 : k = 0 ∨ k = 1
   ·have e2 : (arN ⟨k,n,s⟩ : Int) = 0:=by unfold arN; rw [if_neg h7,if_pos h01]; rfl
    rw [e2]
    (repeat' (first|apply zS|apply zB|((first|apply zR|apply zC|apply zT|apply zE|apply zK);simp only [go_sem,h,h7,h01])|apply And.intro|intro _))
    all_goals first|omega|exact hx|skip
   ·have e2 : (arN ⟨k,n,s⟩ : Int) = 2:=by unfold arN; rw [if_neg h7,if_neg h01]; rfl
    rw [e2]
    (repeat' (first|apply zS|apply zB|((first|apply zR|apply zC|apply zT|apply zE|apply zK);simp only [go_sem,h,h7,h01])|apply And.intro|intro _))
    all_goals first|omega|exact hx|skip
end
section
attribute [local go_sem] kTokOk
end
section
attribute [local go_sem] kTokOk
end
end Go.Proofs.YtjjbcoigaejoaaaGreat

namespace Go.Proofs.YtjjbcoigaejoaaaGreat
open Go.Vc
attribute [local irreducible] Go.Vc.WP
attribute [local go_sem] cx0_t cx0_c
attribute [local go_sem] decTok_enc oneTok_f decS_enc St.fzS addL behind St.runO St.stepO
theorem exprEnd_out {L : List Tok} {a : Int} (h : a < 0 ∨ (L.length : Int) ≤ a) : exprEnd L a = -1 := by
 unfold exprEnd
 split
 ·rw [List.drop_eq_nil_of_le (by omega),endGo_nil _ (by omega)]
 ·rfl
theorem exprEnd_in {L : List Tok} {a : Int} (h : 0 ≤ a) : exprEnd L a = endGo (L.drop a.toNat) 1 a.toNat := if_pos h
theorem endGo_row {L : List Tok} {j n : Nat} (hj : j < L.length) (hn : 0 < n) : endGo (L.drop j) n j = if tokOk L[j] = true then endGo (L.drop (j + 1)) (n - 1 + arN L[j]) (j + 1) else -1 := by
 rw [List.drop_eq_getElem_cons hj]
 split
 ·rename_i h; exact endGo_ok hn h
 ·rename_i h; exact endGo_bad hn (by simpa using h)
section
noncomputable def cxEnI := mkX [(19,k60),(115,kTokOk),(112,kArity)] (COk.cons c60 (COk.cons cTokOkI (COk.cons cArityI (COk.nil _))))
theorem cxEnI_t : cxEnI.tys = tys := rfl
theorem cxEnI_c : cxEnI.C = [(19,k60),(115,kTokOk),(112,kArity)] := rfl
attribute [local go_sem] cxEnI_t cxEnI_c k60 kTokOk kArity
theorem cEndI : Cn Tryz.prog 111 kEnd := by
 refine Cn.pur Tryz.func111 (by kernel_rfl) rfl fun d x hx=>?_
 obtain ⟨L,a⟩ := x
 obtain ⟨hL,hs⟩ := hx
 simp only at hL hs ⊢
 refine Holds.go (c := cxEnI) Tryz.func111 rfl Tryz.results111 Tryz.ntmps111 (by omega) (by simp) rfl ?_
 intro X0 w0
 by_cases ha : 0 ≤ a ∧ a ≤ (L.length : Int) - 1
 ·have ha0 := ha.1
  have ha1 := ha.2
  rw [exprEnd_in ha0]
  (repeat' (first|apply zS|apply zB|((first|apply zR|apply zC|apply zT|apply zE|apply zK);simp only [go_sem,ha0,ha1])|apply And.intro|intro _))
  all_goals first|omega|skip
  refine zL (fun p : Nat × Nat=>⟨[(0,.sl 3 (L.map encTok)),(1,.v (.int .i64 p.1)),(5,.v (.int .i64 p.2))],[]⟩) (fun p=>p.1 ≤ L.length ∧ p.2 ≤ 4 * p.1 + 1 ∧ endGo (L.drop a.toNat) 1 a.toNat = endGo (L.drop p.1) p.2 p.1) (fun p=>L.length - p.1) (a.toNat,1) ⟨by simp only; omega,by simp only; omega,rfl⟩ ?_ ?_
  ·have e : ((a.toNat : Nat) : Int) = a:=by omega
   have e1 : ((1 : Nat) : Int) = 1 := rfl
   (simp only [go_sem,e,e1] <;> (first|(and_intros <;> rfl)|simp))
  rintro ⟨j,n⟩ ⟨hj,hn,he⟩
  simp only at hj hn he ⊢
  rw [he]
  by_cases hn0 : 0 < n
  ·have hn0i : (0 : Int) < n:=by omega
   by_cases hlt : j < L.length
   ·have hlti : (j : Int) < L.length:=by omega
    have h1 := rowAt_map encTok L j hlt
    have h2 := endGo_row hlt hn0
    have h3 := hs _ (List.getElem_mem hlt)
    rw [h2]
    generalize L[j] = y at h1 h2 h3
    obtain ⟨yk,yn,ys⟩ := y
    rw [encTok] at h1
    simp only at h1
    cases hk : tokOk ⟨yk,yn,ys⟩ with
    |false =>
     rw [if_neg (by simp)]
     (repeat' (first|apply zS|apply zB|((first|apply zR|apply zC|apply zT|apply zE|apply zK);simp only [go_sem,h1,hk,hn0i,hlti])|apply And.intro|intro _))
     all_goals first|omega|exact h3|skip
    |true =>
     have har : arity ⟨yk,yn,ys⟩ = (arN ⟨yk,yn,ys⟩ : Int):=by unfold arity; rw [hk]; rfl
     have hle := arN_le hk
     rw [if_pos rfl]
     (repeat' (first|apply zS|apply zB|((first|apply zR|apply zC|apply zT|apply zE|apply zK);simp only [go_sem,h1,hk,hn0i,hlti,har])|apply And.intro|intro _))
     all_goals first|omega|exact h3|skip
     refine ⟨(j + 1,n - 1 + arN ⟨yk,yn,ys⟩),⟨by simp only; omega,by simp only; omega,by first|rfl|rw [he,h2,if_pos hk]⟩,by simp only; omega,?_⟩
     rw [show ((n : Int) + ((arN ⟨yk,yn,ys⟩ : Int) - 1)) = ((n - 1 + arN ⟨yk,yn,ys⟩ : Nat) : Int) by omega,show ((j : Int) + 1) = ((j + 1 : Nat) : Int) by omega]
     (first|(and_intros <;> rfl)|simp)
   ·have hge : ¬ (j : Int) < L.length:=by omega
    have e : endGo (L.drop j) n j = -1:=by rw [List.drop_eq_nil_of_le (by omega),endGo_nil _ hn0]
    rw [e]
    have h0 : lk 0 tys = none := rfl
    have hro : Go.Vc.rowAt (L.map encTok) j = []:=by unfold Go.Vc.rowAt; rw [List.getElem?_eq_none (by rw [List.length_map]; omega)]; rfl
    have hle : (L.length : Int) ≤ j:=by omega
    (repeat' (first|apply zS|apply zB|((first|refine WP.regionO (id := 6) ?_); simp only [go_sem,hn0i,hle,h0,hro])|((first|apply zR|apply zC|apply zT|apply zE|apply zK);simp only [go_sem,hn0i,hle,h0,hro])|apply And.intro|intro _))
    all_goals first|omega|skip
  ·have hn1 : n = 0:=by omega
   subst hn1
   rw [endGo_zero]
   (repeat' (first|apply zS|apply zB|((first|apply zR|apply zC|apply zT|apply zE|apply zK);simp only [go_sem])|apply And.intro|intro _))
   all_goals first|omega|skip
 ·rw [exprEnd_out (by omega)]
  have hb : (decide (0 ≤ a) && decide (a ≤ (L.length : Int) - 1)) = false:=by simp; omega
  (repeat' (first|apply zS|apply zB|((first|apply zR|apply zC|apply zT|apply zE|apply zK);simp only [go_sem,hb])|apply And.intro|intro _))
  all_goals first|omega|skip
end
section
noncomputable def cxEnS := mkX [(108,kTokOk),(97,kArity)] (COk.cons cTokOkS (COk.cons cArityS (COk.nil _)))
theorem cxEnS_t : cxEnS.tys = tys := rfl
theorem cxEnS_c : cxEnS.C = [(108,kTokOk),(97,kArity)] := rfl
attribute [local go_sem] cxEnS_t cxEnS_c kTokOk kArity
theorem cEndS : Cn Tryz.prog 107 kEnd := by
 refine Cn.pur Tryz.func107 (by kernel_rfl) rfl fun d x hx=>?_
 obtain ⟨L,a⟩ := x
 obtain ⟨hL,hs⟩ := hx
 simp only at hL hs ⊢
 refine Holds.go (c := cxEnS) Tryz.func107 rfl Tryz.results107 Tryz.ntmps107 (by omega) (by simp) rfl ?_
 intro X0 w0
 by_cases ha0 : 0 ≤ a
 ·have hna : ¬ a < 0:=by omega
  rw [exprEnd_in ha0]
  (repeat' (first|apply zS|apply zB|((first|apply zR|apply zC|apply zT|apply zE|apply zK);simp only [go_sem,hna])|apply And.intro|intro _))
  all_goals first|omega|skip
  refine zL (fun p : Nat × Nat=>⟨[(0,.sl 3 (L.map encTok)),(1,.v (.int .i64 p.1)),(5,.v (.int .i64 p.2))],[]⟩) (fun p=>(p.2 = 1 ∨ p.1 ≤ L.length) ∧ p.2 ≤ 4 * p.1 + 1 ∧ endGo (L.drop a.toNat) 1 a.toNat = endGo (L.drop p.1) p.2 p.1) (fun p=>L.length - p.1) (a.toNat,1) ⟨.inl rfl,by simp only; omega,rfl⟩ ?_ ?_
  ·have e : ((a.toNat : Nat) : Int) = a:=by omega
   have e1 : ((1 : Nat) : Int) = 1 := rfl
   (simp only [go_sem,e,e1] <;> (first|(and_intros <;> rfl)|simp))
  rintro ⟨j,n⟩ ⟨hj,hn,he⟩
  simp only at hj hn he ⊢
  rw [he]
  by_cases hn0 : 0 < n
  ·have hn0i : (0 : Int) < n:=by omega
   by_cases hlt : j < L.length
   ·have hlti : (j : Int) < L.length:=by omega
    have h1 := rowAt_map encTok L j hlt
    have h2 := endGo_row hlt hn0
    have h3 := hs _ (List.getElem_mem hlt)
    rw [h2]
    generalize L[j] = y at h1 h2 h3
    obtain ⟨yk,yn,ys⟩ := y
    rw [encTok] at h1
    simp only at h1
    cases hk : tokOk ⟨yk,yn,ys⟩ with
    |false =>
     rw [if_neg (by simp)]
     (repeat' (first|apply zS|apply zB|((first|apply zR|apply zC|apply zT|apply zE|apply zK);simp only [go_sem,h1,hk,hn0i,hlti])|apply And.intro|intro _))
     all_goals first|omega|exact h3|skip
    |true =>
     have har : arity ⟨yk,yn,ys⟩ = (arN ⟨yk,yn,ys⟩ : Int):=by unfold arity; rw [hk]; rfl
     have hle := arN_le hk
     rw [if_pos rfl]
     (repeat' (first|apply zS|apply zB|((first|apply zR|apply zC|apply zT|apply zE|apply zK);simp only [go_sem,h1,hk,hn0i,hlti,har])|apply And.intro|intro _))
     all_goals first|omega|exact h3|skip
     refine ⟨(j + 1,n - 1 + arN ⟨yk,yn,ys⟩),⟨.inr (by simp only; omega),by simp only; omega,by first|rfl|rw [he,h2,if_pos hk]⟩,by simp only; omega,?_⟩
     rw [show ((n : Int) - 1 + (arN ⟨yk,yn,ys⟩ : Int)) = ((n - 1 + arN ⟨yk,yn,ys⟩ : Nat) : Int) by omega,show ((j : Int) + 1) = ((j + 1 : Nat) : Int) by omega]
     (first|(and_intros <;> rfl)|simp)
   ·have hge : ¬ (j : Int) < L.length:=by omega
    have e : endGo (L.drop j) n j = -1:=by rw [List.drop_eq_nil_of_le (by omega),endGo_nil _ hn0]
    rw [e]
    have h0 : lk 0 tys = none := rfl
    have hro : Go.Vc.rowAt (L.map encTok) j = []:=by unfold Go.Vc.rowAt; rw [List.getElem?_eq_none (by rw [List.length_map]; omega)]; rfl
    have hle : (L.length : Int) ≤ j:=by omega
    (repeat' (first|apply zS|apply zB|((first|refine WP.regionO (id := 6) ?_); simp only [go_sem,hn0i,hle,h0,hro])|((first|apply zR|apply zC|apply zT|apply zE|apply zK);simp only [go_sem,hn0i,hle,h0,hro])|apply And.intro|intro _))
    all_goals first|omega|skip
  ·have hn1 : n = 0:=by omega
   subst hn1
   rw [endGo_zero]
   (repeat' (first|apply zS|apply zB|((first|apply zR|apply zC|apply zT|apply zE|apply zK);simp only [go_sem])|apply And.intro|intro _))
   all_goals first|omega|skip
 ·rw [exprEnd_out (by omega)]
  have hna : a < 0:=by omega
  (repeat' (first|apply zS|apply zB|((first|apply zR|apply zC|apply zT|apply zE|apply zK);simp only [go_sem,hna])|apply And.intro|intro _))
  all_goals first|omega|skip
end
theorem exprOk_eq (L : List Tok) : exprOk L = (decide ((L.length : Int) ≤ 20) && decide ((0 : Int) < L.length) && (exprEnd L 0 == (L.length : Int))) := by
 rw [Bool.eq_iff_iff,exprOk_iff]
 simp only [Bool.and_eq_true,decide_eq_true_eq,beq_iff_eq,← List.length_pos_iff]
 omega
section
noncomputable def cxEoI := mkX [(111,kEnd)] (COk.cons cEndI (COk.nil _))
theorem cxEoI_t : cxEoI.tys = tys := rfl
theorem cxEoI_c : cxEoI.C = [(111,kEnd)] := rfl
attribute [local go_sem] cxEoI_t cxEoI_c kEnd
theorem cExOkI : Cn Tryz.prog 100 kExOk := by
 refine Cn.pur Tryz.func100 (by kernel_rfl) rfl fun d x hx=>?_
 rename List Tok=>L
 have hL := hx.1
 refine Holds.go (c := cxEoI) Tryz.func100 rfl Tryz.results100 Tryz.ntmps100 (by omega) (by simp) rfl ?_
 intro X0 w0
 rw [exprOk_eq]
 (repeat' (first|apply zS|apply zB|((first|apply zR|apply zC|apply zT|apply zE|apply zK);simp only [go_sem])|apply And.intro|intro _))
 all_goals first|omega|exact hx|exact hx.2 _ ‹_›|skip
end
section
noncomputable def cxEoS := mkX [(107,kEnd)] (COk.cons cEndS (COk.nil _))
theorem cxEoS_t : cxEoS.tys = tys := rfl
theorem cxEoS_c : cxEoS.C = [(107,kEnd)] := rfl
attribute [local go_sem] cxEoS_t cxEoS_c kEnd
theorem cExOkS : Cn Tryz.prog 95 kExOk := by
 refine Cn.pur Tryz.func95 (by kernel_rfl) rfl fun d x hx=>?_
 rename List Tok=>L
 have hL := hx.1
 refine Holds.go (c := cxEoS) Tryz.func95 rfl Tryz.results95 Tryz.ntmps95 (by omega) (by simp) rfl ?_
 intro X0 w0
 rw [exprOk_eq,Bool.and_comm (decide ((L.length : Int) ≤ 20))]
 (repeat' (first|apply zS|apply zB|((first|apply zR|apply zC|apply zT|apply zE|apply zK);simp only [go_sem])|apply And.intro|intro _))
 all_goals first|omega|exact hx|exact hx.2 _ ‹_›|skip
end
section
attribute [local go_sem] kExOk
end
section
attribute [local go_sem] kExOk
end
end Go.Proofs.YtjjbcoigaejoaaaGreat

namespace Go.Proofs.YtjjbcoigaejoaaaGreat
open Go.Vc
attribute [local irreducible] Go.Vc.WP
attribute [local go_sem] cx0_t cx0_c
attribute [local go_sem] decTok_enc oneTok_f decS_enc St.fzS addL behind St.runO St.stepO
section
end
end Go.Proofs.YtjjbcoigaejoaaaGreat

namespace Go.Proofs.YtjjbcoigaejoaaaGreat
open Go.Vc
attribute [local irreducible] Go.Vc.WP
attribute [local go_sem] cx0_t cx0_c
attribute [local go_sem] decTok_enc oneTok_f decS_enc St.fzS addL behind St.runO St.stepO
section
set_option maxHeartbeats 8000000
attribute [local go_sem] kTokOk
end
end Go.Proofs.YtjjbcoigaejoaaaGreat

namespace Go.Proofs.YtjjbcoigaejoaaaGreat
open Go.Vc
attribute [local irreducible] Go.Vc.WP
attribute [local go_sem] cx0_t cx0_c
attribute [local go_sem] decTok_enc oneTok_f decS_enc St.fzS addL behind St.runO St.stepO
def wfW (W : List ByteArray) : Prop := W.length ≤ 1048576 ∧ ∀ w ∈ W,w.size ≤ 1048576
section
attribute [local go_sem] kExOk
end
section
attribute [local go_sem] kExOk
end
end Go.Proofs.YtjjbcoigaejoaaaGreat

namespace Go.Proofs.YtjjbcoigaejoaaaGreat
open Go.Vc
attribute [local irreducible] Go.Vc.WP
attribute [local go_sem] cx0_t cx0_c
attribute [local go_sem] decTok_enc oneTok_f decS_enc oneLine_f line_eta St.fzS addL behind St.runO St.stepO
def hasEx3 (k : Int) : Bool := decide (k ≠ 0) && decide (k ≠ 4) && decide (k ≠ 7)
theorem hasEx3_eq {k : Int} (h : 0 ≤ k) (h' : k ≤ 7) : hasEx3 k = hasEx k := by
 rcases kw_case h h' with e|e|e|e|e|e|e|e <;> rw [e] <;> decide
def kHasEx : Ctr := pur (fun args=>aI args 0) (fun k=>[.v (.int .i64 k)]) (fun _=>True) (fun _ k=>.v (.bool (hasEx k))) (fun _ _=>[])
def kHasEx3 : Ctr := pur (fun args=>aI args 0) (fun k=>[.v (.int .i64 k)]) (fun _=>True) (fun _ k=>.v (.bool (hasEx3 k))) (fun _ _=>[])
theorem cHasExI : Cn Tryz.prog 88 kHasEx := by
 refine Cn.pur Tryz.func88 (by kernel_rfl) rfl fun d x hx=>?_
 rename Int=>k
 refine Holds.go (c := cx0) Tryz.func88 rfl Tryz.results88 Tryz.ntmps88 (by omega) (by simp) rfl ?_
 intro X0 w0
 have e : hasEx k = ((k == 1) || (k == 2) || (k == 3) || (k == 5) || (k == 6)) := rfl
 rw [e]
 (repeat' (first|apply zS|apply zB|((first|apply zR|apply zC|apply zT|apply zE|apply zK);simp only [go_sem])|apply And.intro|intro _))
 all_goals first|omega|skip
theorem cHasExS : Cn Tryz.prog 94 kHasEx3 := by
 refine Cn.pur Tryz.func94 (by kernel_rfl) rfl fun d x hx=>?_
 rename Int=>k
 refine Holds.go (c := cx0) Tryz.func94 rfl Tryz.results94 Tryz.ntmps94 (by omega) (by simp) rfl ?_
 intro X0 w0
 have e : hasEx3 k = ((k != 0) && (k != 4) && (k != 7)) := by
  unfold hasEx3
  rw [show (k != 0) = decide (k ≠ 0) by simp [bne]; rfl,show (k != 4) = decide (k ≠ 4) by simp [bne]; rfl,show (k != 7) = decide (k ≠ 7) by simp [bne]; rfl]
 rw [e]
 (repeat' (first|apply zS|apply zB|((first|apply zR|apply zC|apply zT|apply zE|apply zK);simp only [go_sem])|apply And.intro|intro _))
 all_goals first|omega|skip
def ArgsP (L : List ByteArray) : Prop := (∀ s ∈ L,nameOk s = true) ∧ L.Nodup ∧ L.length ≤ 4
instance (L : List ByteArray) : Decidable (ArgsP L):=by unfold ArgsP; infer_instance
theorem nodup_take {L : List ByteArray} {k : Nat} (hk : k < L.length) (h : (L.take k).Nodup) (hn : L[k] ∉ L.take k) : (L.take (k + 1)).Nodup := by
 rw [List.take_succ_eq_append_getElem hk,List.nodup_append]
 refine ⟨h,by simp,fun a ha b hb=>?_⟩
 simp only [List.mem_cons,List.not_mem_nil,or_false] at hb
 subst hb
 exact fun e=>hn (e ▸ ha)
theorem nodup_no {L : List ByteArray} {k : Nat} (hk : k < L.length) (hn : L[k] ∈ L.take k) : ¬ L.Nodup := fun h=>by
 have h2 : (L.take (k + 1)).Nodup := h.sublist (List.take_sublist _ _)
 rw [List.take_succ_eq_append_getElem hk,List.nodup_append] at h2
 exact h2.2.2 _ hn _ (by simp) rfl
def kArArgs : Ctr := pur (fun args=>decS (aR args 0)) (fun L=>[.sl 1 (L.map encS)]) wfW (fun _ L=>.v (.bool (decide (ArgsP L)))) (fun _ _=>[])
section
noncomputable def cxAr := mkX [(92,kNameOk),(110,kHasS)] (COk.cons cNameOkI (COk.cons cHasS (COk.nil _)))
theorem cxAr_t : cxAr.tys = tys := rfl
theorem cxAr_c : cxAr.C = [(92,kNameOk),(110,kHasS)] := rfl
attribute [local go_sem] cxAr_t cxAr_c kNameOk kHasS
theorem cArArgs : Cn Tryz.prog 99 kArArgs := by
 refine Cn.pur Tryz.func99 (by kernel_rfl) rfl fun d x hx=>?_
 rename List ByteArray=>L
 have hL := hx.1
 refine Holds.go (c := cxAr) Tryz.func99 rfl Tryz.results99 Tryz.ntmps99 (by omega) (by simp) rfl ?_
 intro X0 w0
 (repeat' (first|apply zS|apply zB|((first|apply zR|apply zC|apply zT|apply zE|apply zK);simp only [go_sem])|apply And.intro|intro _))
 all_goals first|omega|skip
 refine zL (fun k : Nat=>⟨[(0,.sl 1 (L.map encS)),(5,.sl 1 (L.map encS)),(6,.v (.int .i64 L.length)),(7,.v (.int .i64 k))],[]⟩) (fun k=>k ≤ L.length ∧ (∀ i (hi : i < L.length),i < k → nameOk L[i] = true) ∧ (L.take k).Nodup) (fun k=>L.length - k) 0 (by simp) ?_ ?_
 ·(simp only [go_sem] <;> (first|(and_intros <;> rfl)|simp))
 rintro k ⟨hk,hf,hd⟩
 by_cases hlt : k < L.length
 ·have hli : (k : Int) < L.length:=by omega
  have h1 := rowAt_map encS L k hlt
  have h2 := hx.2 _ (List.getElem_mem hlt)
  have hcut : (L.map encS).take k = (L.take k).map encS := (List.map_take ..).symm
  have hcl : (L.take k).length = k:=by rw [List.length_take]; omega
  cases hn : nameOk L[k] with
  |false =>
   have hno : decide (ArgsP L) = false := decide_eq_false fun q=>by rw [q.1 _ (List.getElem_mem hlt)] at hn; cases hn
   rw [hno]
   (repeat' (first|apply zS|apply zB|((first|refine WP.regionO (id := 4) ?_); simp only [go_sem,hli,h1,encS,hn,hcut,hcl])|((first|apply zR|apply zC|apply zT|apply zE|apply zK);simp only [go_sem,hli,h1,encS,hn,hcut,hcl])|apply And.intro|intro _))
   all_goals first|omega|skip
  |true =>
   by_cases hm : L[k] ∈ L.take k
   ·have hno : decide (ArgsP L) = false := decide_eq_false fun q=>nodup_no hlt hm q.2.1
    rw [hno]
    (repeat' (first|apply zS|apply zB|((first|apply zR|apply zC|apply zT|apply zE|apply zK);simp only [go_sem,hli,h1,encS,hn,hcut,hcl,hm])|apply And.intro|intro _))
    all_goals first|omega|skip
   ·have hnx : ∀ i (hi : i < L.length),i < k + 1 → nameOk L[i] = true := fun i hi hik=>by
     rcases Nat.lt_or_ge i k with q|q
     ·exact hf i hi q
     ·have : i = k:=by omega
      subst this; exact hn
    (repeat' (first|apply zS|apply zB|((first|apply zR|apply zC|apply zT|apply zE|apply zK);simp only [go_sem,hli,h1,encS,hn,hcut,hcl,hm])|apply And.intro|intro _))
    all_goals first|omega|exact ⟨k + 1,⟨by omega,hnx,nodup_take hlt hd hm⟩,by omega,by (first|(and_intros <;> rfl)|simp)⟩|skip
 ·have hge : ¬ (k : Int) < L.length:=by omega
  have e : decide (ArgsP L) = decide ((L.length : Int) ≤ 4) := decide_eq_decide.2 ⟨fun q=>by have := q.2.2; omega,fun q=>⟨fun s hs=>by
   obtain ⟨i,hi,rfl⟩ := List.mem_iff_getElem.1 hs
   exact hf i hi (by omega),by rwa [List.take_of_length_le (by omega)] at hd,by omega⟩⟩
  rw [e]
  (repeat' (first|apply zS|apply zB|((first|apply zR|apply zC|apply zT|apply zE|apply zK);simp only [go_sem,hge])|apply And.intro|intro _))
  all_goals first|omega|skip
end
def smLine (x : Line) : Prop := x.name.size ≤ 1048576 ∧ wfW x.args ∧ smToks x.expr
def kLnOk : Ctr := pur (fun args=>oneLine (aC args 0)) (fun x=>[.agg [.v (.int .i64 x.kind),.v (.string x.name),.sl 1 (x.args.map encS),.sl 3 (x.expr.map encTok)]]) smLine (fun _ x=>.v (.bool (decide (LineP x)))) (fun _ _=>[])
def lastP (x : Line) : Prop := (hasEx x.kind = true → exprOk x.expr = true) ∧ (hasEx x.kind = false → x.expr = [])
theorem decide_bool {p : Prop} [Decidable p] {b : Bool} (h : p ↔ b = true) : decide p = b := by
 cases b with
 |false=>exact decide_eq_false fun e=>by simpa using h.1 e
 |true=>exact decide_eq_true (h.2 rfl)
theorem len0_eq (E : List Tok) : ((E.length : Int) == 0) = decide (E = []) := by
 cases E with
 |nil=>rfl
 |cons a l=>simp; omega
section
noncomputable def LcxLoI : CL := [(19,k60),(92,kNameOk),(99,kArArgs),(88,kHasEx),(100,kExOk)]
noncomputable def cxLoI := mkX LcxLoI (COk.cons c60 (COk.cons cNameOkI (COk.cons cArArgs (COk.cons cHasExI (COk.cons cExOkI (COk.nil _))))))
theorem cxLoI_t : cxLoI.tys = tys := rfl
theorem cxLoI_c : cxLoI.C = LcxLoI := rfl
attribute [local go_sem] cxLoI_t cxLoI_c LcxLoI k60 kNameOk kArArgs kHasEx kExOk
theorem cLnOkI : Cn Tryz.prog 82 kLnOk := by
 refine Cn.pur Tryz.func82 (by kernel_rfl) rfl fun d x hx=>?_
 obtain ⟨k,n,A,E⟩ := x
 obtain ⟨hn,hA,hE⟩ := hx
 have hAl := hA.1
 have hEl := hE.1
 simp only at hn hAl hEl hA hE ⊢
 refine Holds.go (c := cxLoI) Tryz.func82 rfl Tryz.results82 Tryz.ntmps82 (by omega) (by simp) rfl ?_
 intro X0 w0
 by_cases hk : 0 ≤ k ∧ k ≤ 7
 ·have hk0 := hk.1
  have hk7 := hk.2
  by_cases h01 : k = 0 ∨ k = 1
  ·cases hnm : nameOk n with
   |false =>
    have hno : decide (LineP ⟨k,n,A,E⟩) = false := decide_eq_false fun q=>by rw [q.name h01] at hnm; cases hnm
    rw [hno]
    (repeat' (first|apply zS|apply zB|((first|apply zR|apply zC|apply zT|apply zE|apply zK);simp only [go_sem,hk0,hk7,h01,hnm])|apply And.intro|intro _))
    all_goals first|omega|exact hA|exact hE|exact hA.2 _ ‹_›|exact hE.2 _ ‹_›|skip
   |true =>
    by_cases h0 : k = 0
    ·subst h0
     by_cases hap : ArgsP A
     ·have he : decide (LineP ⟨0,n,A,E⟩) = decide (E = []) := decide_eq_decide.2 ⟨fun q=>q.noExpr rfl,fun q=>⟨hk,hap.2.2,hap.1,hap.2.1,fun h=>absurd rfl h,fun _=>hnm,fun h=>absurd (.inl rfl) h,fun h=>absurd (show hasEx 0 = true from h) (by decide),fun _=>q⟩⟩
      have hx0 : hasEx 0 = false := rfl
      have hl0 := len0_eq E
      rw [he]
      (repeat' (first|apply zS|apply zB|((first|apply zR|apply zC|apply zT|apply zE|apply zK);simp only [go_sem,hnm,hap,hx0,hl0])|apply And.intro|intro _))
      all_goals first|omega|exact hA|exact hE|exact hA.2 _ ‹_›|exact hE.2 _ ‹_›|skip
     ·have hno : decide (LineP ⟨0,n,A,E⟩) = false := decide_eq_false fun q=>hap ⟨q.names,q.apart,q.few⟩
      rw [hno]
      (repeat' (first|apply zS|apply zB|((first|apply zR|apply zC|apply zT|apply zE|apply zK);simp only [go_sem,hnm,hap])|apply And.intro|intro _))
      all_goals first|omega|exact hA|exact hE|exact hA.2 _ ‹_›|exact hE.2 _ ‹_›|skip
    ·have h1 : k = 1:=by omega
     subst h1
     by_cases hA0 : A = []
     ·have he : decide (LineP ⟨1,n,A,E⟩) = exprOk E := by
       exact decide_bool ⟨fun q=>q.expr rfl,fun q=>⟨hk,by rw [hA0]; show (0 : Nat) ≤ 4; decide,by rw [hA0]; simp,by rw [hA0]; simp,fun _=>hA0,fun _=>hnm,fun h=>absurd (.inr rfl) h,fun _=>q,fun h=>absurd (show hasEx 1 = false from h) (by decide)⟩⟩
      have hx0 : hasEx 1 = true := rfl
      have hl0 : (A.length : Int) = 0:=by rw [hA0]; rfl
      rw [he]
      (repeat' (first|apply zS|apply zB|((first|apply zR|apply zC|apply zT|apply zE|apply zK);simp only [go_sem,hnm,hx0,hl0])|apply And.intro|intro _))
      all_goals first|omega|exact hA|exact hE|exact hA.2 _ ‹_›|exact hE.2 _ ‹_›|skip
     ·have hno : decide (LineP ⟨1,n,A,E⟩) = false := decide_eq_false fun q=>hA0 (q.noArgs (show (1 : Int) ≠ 0 by decide))
      have hl0 : (0 : Int) < A.length:=by have := List.length_pos_iff.2 hA0; omega
      rw [hno]
      (repeat' (first|apply zS|apply zB|((first|apply zR|apply zC|apply zT|apply zE|apply zK);simp only [go_sem,hnm,hl0])|apply And.intro|intro _))
      all_goals first|omega|exact hA|exact hE|exact hA.2 _ ‹_›|exact hE.2 _ ‹_›|skip
  ·have h0 : ¬ k = 0 := fun e=>h01 (.inl e)
   have h1 : ¬ k = 1 := fun e=>h01 (.inr e)
   by_cases hne : n = ⟨#[]⟩
   ·by_cases hA0 : A = []
    ·have hl0 : (A.length : Int) = 0:=by rw [hA0]; rfl
     have hneT : (n = ⟨#[]⟩) = True := eq_true hne
     have hneF : (n ≠ ⟨#[]⟩) = False := eq_false fun h=>h hne
     have hz : LineP ⟨k,n,A,E⟩ ↔ lastP ⟨k,n,A,E⟩ := ⟨fun q=>⟨q.expr,q.noExpr⟩,fun q=>⟨hk,by rw [hA0]; show (0 : Nat) ≤ 4; decide,by rw [hA0]; simp,by rw [hA0]; simp,fun _=>hA0,fun h=>absurd h h01,fun _=>hne,q.1,q.2⟩⟩
     cases hex : hasEx k with
     |true =>
      have he : decide (LineP ⟨k,n,A,E⟩) = exprOk E := by
       exact decide_bool (hz.trans ⟨fun q=>q.1 hex,fun q=>⟨fun _=>q,fun h=>by rw [hex] at h; cases h⟩⟩)
      rw [he]
      (repeat' (first|apply zS|apply zB|((first|apply zR|apply zC|apply zT|apply zE|apply zK);simp only [go_sem,hk0,hk7,h0,h1,hneT,hl0,hex])|apply And.intro|intro _))
      all_goals first|omega|exact hA|exact hE|exact hA.2 _ ‹_›|exact hE.2 _ ‹_›|skip
     |false =>
      have he : decide (LineP ⟨k,n,A,E⟩) = decide (E = []) := decide_eq_decide.2 (hz.trans ⟨fun q=>q.2 hex,fun q=>⟨fun h=>(by rw [hex] at h; cases h),fun _=>q⟩⟩)
      have hle := len0_eq E
      rw [he]
      (repeat' (first|apply zS|apply zB|((first|apply zR|apply zC|apply zT|apply zE|apply zK);simp only [go_sem,hk0,hk7,h0,h1,hneT,hl0,hex,hle])|apply And.intro|intro _))
      all_goals first|omega|exact hA|exact hE|exact hA.2 _ ‹_›|exact hE.2 _ ‹_›|skip
    ·have hno : decide (LineP ⟨k,n,A,E⟩) = false := decide_eq_false fun q=>hA0 (q.noArgs h0)
     have hl0 : (0 : Int) < A.length:=by have := List.length_pos_iff.2 hA0; omega
     have hneT : (n = ⟨#[]⟩) = True := eq_true hne
     rw [hno]
     (repeat' (first|apply zS|apply zB|((first|apply zR|apply zC|apply zT|apply zE|apply zK);simp only [go_sem,hk0,hk7,h0,h1,hneT,hl0])|apply And.intro|intro _))
     all_goals first|omega|exact hA|exact hE|exact hA.2 _ ‹_›|exact hE.2 _ ‹_›|skip
   ·have hno : decide (LineP ⟨k,n,A,E⟩) = false := decide_eq_false fun q=>hne (q.noName h01)
    rw [hno]
    (repeat' (first|apply zS|apply zB|((first|apply zR|apply zC|apply zT|apply zE|apply zK);simp only [go_sem,hk0,hk7,h0,h1,hne])|apply And.intro|intro _))
    all_goals first|omega|exact hA|exact hE|exact hA.2 _ ‹_›|exact hE.2 _ ‹_›|skip
 ·have hno : decide (LineP ⟨k,n,A,E⟩) = false := decide_eq_false fun q=>hk q.kind
  have hb : (decide (0 ≤ k) && decide (k ≤ 7)) = false:=by simp; omega
  rw [hno]
  (repeat' (first|apply zS|apply zB|((first|apply zR|apply zC|apply zT|apply zE|apply zK);simp only [go_sem,hb])|apply And.intro|intro _))
  all_goals first|omega|exact hA|exact hE|exact hA.2 _ ‹_›|exact hE.2 _ ‹_›|skip
end
end Go.Proofs.YtjjbcoigaejoaaaGreat

