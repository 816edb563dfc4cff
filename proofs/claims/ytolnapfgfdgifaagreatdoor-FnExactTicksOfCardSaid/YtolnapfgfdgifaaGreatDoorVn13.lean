/-
  DERIVED. Several texts of ours in one: VpNbr, VtTick.
-/
import Derived.Test.YtolnapfgfdgifaaGreatDoorVn0
import Derived.Test.YtolnapfgfdgifaaGreatDoorVn1
import Derived.Test.YtolnapfgfdgifaaGreatDoorVn2
import Derived.Test.YtolnapfgfdgifaaGreatDoorVn3
import Derived.Test.YtolnapfgfdgifaaGreatDoorVn4
import Derived.Test.YtolnapfgfdgifaaGreatDoorVn5
import Derived.Test.YtolnapfgfdgifaaGreatDoorVn6
import Derived.Test.YtolnapfgfdgifaaGreatDoorVn7
import Derived.Test.YtolnapfgfdgifaaGreatDoorVn8
import Derived.Test.YtolnapfgfdgifaaGreatDoorVn9
import Derived.Test.YtolnapfgfdgifaaGreatDoorVn10
import Derived.Test.YtolnapfgfdgifaaGreatDoorVn11
import Derived.Test.YtolnapfgfdgifaaGreatDoorVn12
set_option linter.unusedSimpArgs false
set_option linter.unusedVariables false
/-
  DERIVED. Plain lists: counts by name, as they are summed up in place and as they are kept in order.
-/
namespace Go.Proofs.YtolnapfgfdgifaaGreatDoor
set_option linter.unusedVariables false
open Go.Pl
instance inhE : Inhabited Entry := ⟨⟨⟨#[]⟩, 0⟩⟩
instance memBA (t : ByteArray) (ns : List ByteArray) : Decidable (t ∈ ns) := decidable_of_iff (∃ x, x ∈ ns ∧ x = t) (by simp)
def isAt (s : ByteArray) (e : Entry) : Bool := decide (e.stack = s)
/-- c more for s: in place, or at the end -/
def bump (L : List Entry) (s : ByteArray) (c : Int) : List Entry :=
  if firstIdx (isAt s) L < 0 then L ++ [⟨s, c⟩] else L.set (firstIdx (isAt s) L).toNat ⟨s, (L.getD (firstIdx (isAt s) L).toNat default).count + c⟩
/-- where s stands or belongs in a list that ascends -/
def posE (L : List Entry) (s : ByteArray) : Nat := (L.takeWhile fun x => ltS x.stack s).length
/-- .. in order -/
def insB (L : List Entry) (s : ByteArray) (c : Int) : List Entry :=
  if (posE L s < L.length ∧ (L.getD (posE L s) default).stack = s) then L.set (posE L s) ⟨s, (L.getD (posE L s) default).count + c⟩ else L.take (posE L s) ++ ⟨s, c⟩ :: L.drop (posE L s)
/-- what a list of counts is as a function -/
structure Rep' (L : List Entry) (f : ByteArray → Option Int) : Prop where
  nd : L.Pairwise fun a b => a.stack ≠ b.stack
  mem : ∀ e : Entry, e ∈ L ↔ f e.stack = some e.count
def updF (f : ByteArray → Option Int) (s : ByteArray) (c : Int) (t : ByteArray) : Option Int := if t = s then some ((f s).getD 0 + c) else f t
theorem Rep'.nodup {L : List Entry} {f : ByteArray → Option Int} (h : Rep' L f) : L.Nodup := h.nd.imp fun hne e => hne (by rw [e])
theorem Rep'.perm {L M : List Entry} {f : ByteArray → Option Int} (h : Rep' L f) (g : Rep' M f) : L.Perm M :=
  (List.perm_ext_iff_of_nodup h.nodup g.nodup).2 fun e => by rw [h.mem, g.mem]
theorem Rep'.nil : Rep' [] (fun _ => none) := ⟨.nil, fun e => by simp⟩
theorem Rep'.none {L : List Entry} {f : ByteArray → Option Int} (h : Rep' L f) {s : ByteArray} (hs : ∀ x ∈ L, x.stack ≠ s) : f s = none := by
  cases hf : f s with
  | none => rfl
  | some n => exact absurd rfl (hs ⟨s, n⟩ ((h.mem _).2 hf))
/-- one is put in, wherever -/
theorem Rep'.put {L A B : List Entry} {f : ByteArray → Option Int} (h : Rep' L f) (hL : L = A ++ B) {s : ByteArray} {c : Int} (hs : ∀ x ∈ L, x.stack ≠ s) : Rep' (A ++ ⟨s, c⟩ :: B) (updF f s c) := by
  have hp : (A ++ ⟨s, c⟩ :: B).Perm (⟨s, c⟩ :: L) := by rw [hL]; exact List.perm_middle
  have hn := h.none hs
  refine ⟨?_, fun e => ?_⟩
  · refine (hp.pairwise_iff (fun {a b} hh => Ne.symm hh)).2 ?_
    exact List.pairwise_cons.2 ⟨fun x hx => Ne.symm (hs x hx), h.nd⟩
  · rw [hp.mem_iff, List.mem_cons, h.mem]
    unfold updF
    by_cases he : e.stack = s
    · rw [if_pos he, he, hn]
      constructor
      · rintro (h1 | h1)
        · rw [h1]; simp
        · cases h1
      · intro h1
        left
        obtain ⟨a, b⟩ := e
        simp only at he
        simp only [Option.getD_none, Int.zero_add, Option.some.injEq] at h1
        rw [he, h1]
    · rw [if_neg he]
      constructor
      · rintro (h1 | h1)
        · exact absurd (by rw [h1]) he
        · exact h1
      · exact .inr
/-- one is counted up -/
theorem Rep'.up {L : List Entry} {f : ByteArray → Option Int} (h : Rep' L f) {k : Nat} (hk : k < L.length) (c : Int) : Rep' (L.set k ⟨L[k].stack, L[k].count + c⟩) (updF f L[k].stack c) := by
  have hat : ∀ i (hi : i < L.length), L[i].stack = L[k].stack → i = k := fun i hi he => by
    rcases Nat.lt_trichotomy i k with h1 | h1 | h1
    · exact absurd he ((List.pairwise_iff_getElem.1 h.nd) i k hi hk h1)
    · exact h1
    · exact absurd he.symm ((List.pairwise_iff_getElem.1 h.nd) k i hk hi h1)
  have hf : f L[k].stack = some L[k].count := (h.mem _).1 (List.getElem_mem hk)
  refine ⟨?_, fun e => ?_⟩
  · rw [List.pairwise_iff_getElem]
    intro i j hi hj hij
    simp only [List.length_set] at hi hj
    have h0 := (List.pairwise_iff_getElem.1 h.nd) i j hi hj hij
    rw [List.getElem_set, List.getElem_set]
    by_cases h1 : k = i
    · subst h1
      rw [if_pos rfl, if_neg (by omega)]; exact h0
    · rw [if_neg h1]
      by_cases h2 : k = j
      · subst h2; rw [if_pos rfl]; exact h0
      · rw [if_neg h2]; exact h0
  · unfold updF
    by_cases he : e.stack = L[k].stack
    · rw [if_pos he, hf]
      constructor
      · intro hm
        obtain ⟨i, hi, hie⟩ := List.mem_iff_getElem.1 hm
        simp only [List.length_set] at hi
        rw [List.getElem_set] at hie
        by_cases h1 : k = i
        · rw [if_pos h1] at hie; rw [← hie]; rfl
        · rw [if_neg h1] at hie
          exact absurd (hat i hi (by rw [hie, he])).symm h1
      · intro h1
        simp only [Option.getD_some, Option.some.injEq] at h1
        have : e = ⟨L[k].stack, L[k].count + c⟩ := by
          obtain ⟨a, b⟩ := e
          simp only at he h1
          rw [he, h1]
        rw [this]
        exact List.mem_iff_getElem.2 ⟨k, by simpa using hk, by simp⟩
    · rw [if_neg he, ← h.mem]
      constructor
      · intro hm
        rcases mem_set' hm with h1 | h1
        · exact absurd (by rw [h1]) he
        · exact h1
      · intro hm
        obtain ⟨i, hi, hie⟩ := List.mem_iff_getElem.1 hm
        have : k ≠ i := fun e1 => by subst e1; exact he (by rw [hie])
        exact List.mem_iff_getElem.2 ⟨i, by simpa using hi, by rw [List.getElem_set, if_neg this]; exact hie⟩
theorem firstIdx_pos {α : Type} {p : α → Bool} {L : List α} (h : ¬ firstIdx p L < 0) : ∃ (k : Nat) (hk : k < L.length), firstIdx p L = k ∧ p L[k] = true := by
  unfold firstIdx at h ⊢
  split at h
  · rename_i i hi
    obtain ⟨h1, h2, _⟩ := List.findIdx?_eq_some_iff_getElem.1 hi
    exact ⟨i, h1, rfl, h2⟩
  · omega
theorem Rep'.bump {L : List Entry} {f : ByteArray → Option Int} (h : Rep' L f) (s : ByteArray) (c : Int) : Rep' (Go.Proofs.YtolnapfgfdgifaaGreatDoor.bump L s c) (updF f s c) := by
  unfold Go.Proofs.YtolnapfgfdgifaaGreatDoor.bump
  split
  · rename_i hn
    have := h.put (A := L) (B := []) (by simp) (s := s) (c := c) (fun x hx he => by
      have := firstIdx_neg hn x hx
      simp [isAt, he] at this)
    exact this
  · rename_i hn
    obtain ⟨k, hk, h1, h2⟩ := firstIdx_pos hn
    have hs : L[k].stack = s := by simpa [isAt] using h2
    rw [h1, Int.toNat_natCast, List.getD_eq_getElem?_getD, List.getElem?_eq_getElem hk, Option.getD_some]
    have := h.up hk c
    rw [hs] at this
    exact this
theorem posE_le (L : List Entry) (s : ByteArray) : posE L s ≤ L.length := by
  unfold posE; exact (List.takeWhile_sublist _).length_le
theorem posE_lt {L : List Entry} {s : ByteArray} {i : Nat} (hi : i < L.length) (h : i < posE L s) : ltS L[i].stack s = true := by
  have h1 : L[i] ∈ L.takeWhile (fun x => ltS x.stack s) := by
    have h2 := List.takeWhile_prefix (l := L) (fun x => ltS x.stack s)
    have h3 : (L.takeWhile (fun x => ltS x.stack s))[i]'h = L[i] := h2.getElem h
    rw [← h3]; exact List.getElem_mem _
  have := (mem_takeWhile' h1).1
  exact this
theorem posE_ge {L : List Entry} {s : ByteArray} (h : posE L s < L.length) : ltS L[posE L s].stack s = false := by
  have h1 : L.dropWhile (fun x => ltS x.stack s) = L.drop (posE L s) := by
    have h2 := List.takeWhile_append_dropWhile (p := fun x : Entry => ltS x.stack s) (l := L)
    have h3 : L.drop (posE L s) = (L.takeWhile (fun x => ltS x.stack s) ++ L.dropWhile (fun x => ltS x.stack s)).drop (posE L s) := by rw [h2]
    rw [h3]; unfold posE; rw [List.drop_left]
  rw [List.drop_eq_getElem_cons h] at h1
  have h4 : L.dropWhile (fun x => ltS x.stack s) ≠ [] := by rw [h1]; exact List.cons_ne_nil _ _
  have h5 := List.head_dropWhile_not (fun x : Entry => ltS x.stack s) h4
  have h6 : (L.dropWhile (fun x => ltS x.stack s)).head h4 = L[posE L s] := by simp only [h1, List.head_cons]
  rw [h6] at h5
  simpa using h5
theorem posE_eq {L : List Entry} {s : ByteArray} {n : Nat} (hn : n ≤ L.length) (h1 : ∀ j (hj : j < L.length), j < n → ltS L[j].stack s = true) (h2 : ∀ h : n < L.length, ltS L[n].stack s = false) : posE L s = n := by
  rcases Nat.lt_trichotomy (posE L s) n with h | h | h
  · have h3 := posE_ge (L := L) (s := s) (by omega)
    rw [h1 _ (by omega) h] at h3; cases h3
  · exact h
  · have := posE_le L s
    have h3 := posE_lt (L := L) (s := s) (i := n) (by omega) h
    rw [h2 (by omega)] at h3; cases h3
theorem Rep'.insB {L : List Entry} {f : ByteArray → Option Int} (h : Rep' L f) (ha : Asc ltE L) (s : ByteArray) (c : Int) : Rep' (Go.Proofs.YtolnapfgfdgifaaGreatDoor.insB L s c) (updF f s c) ∧ Asc ltE (Go.Proofs.YtolnapfgfdgifaaGreatDoor.insB L s c) := by
  have hle := posE_le L s
  unfold Go.Proofs.YtolnapfgfdgifaaGreatDoor.insB
  split
  · rename_i hh
    obtain ⟨hk, hs⟩ := hh
    rw [List.getD_eq_getElem?_getD, List.getElem?_eq_getElem hk, Option.getD_some] at hs ⊢
    have h1 := h.up hk c
    rw [hs] at h1
    refine ⟨h1, ?_⟩
    unfold Asc at ha ⊢
    rw [List.pairwise_iff_getElem] at ha ⊢
    intro i j hi hj hij
    simp only [List.length_set] at hi hj
    have h0 := ha i j hi hj hij
    have key : ∀ (q : Nat) (hq : q < L.length), ((L.set (posE L s) ⟨s, L[posE L s].count + c⟩)[q]'(by simpa using hq)).stack = L[q].stack := fun q hq => by
      rw [List.getElem_set]
      split
      · rename_i e; subst e; exact hs.symm
      · rfl
    unfold ltE at h0 ⊢
    rw [key i hi, key j hj]; exact h0
  · rename_i hh
    have hne : ∀ x ∈ L, x.stack ≠ s := fun x hx he => by
      obtain ⟨i, hi, rfl⟩ := List.mem_iff_getElem.1 hx
      rcases Nat.lt_or_ge i (posE L s) with h1 | h1
      · exact ltS_ne (posE_lt hi h1) he
      · rcases Nat.lt_or_ge (posE L s) i with h2 | h2
        · have h3 := posE_ge (L := L) (s := s) (by omega)
          unfold Asc at ha
          have h4 := (List.pairwise_iff_getElem.1 ha) (posE L s) i (by omega) hi h2
          unfold ltE at h4
          rw [he] at h4
          rw [h3] at h4; cases h4
        · obtain rfl : i = posE L s := by omega
          exact hh ⟨hi, by rw [List.getD_eq_getElem?_getD, List.getElem?_eq_getElem hi]; exact he⟩
    refine ⟨h.put (List.take_append_drop _ _).symm hne, ?_⟩
    have hins : ins ltE ⟨s, c⟩ L = L.take (posE L s) ++ ⟨s, c⟩ :: L.drop (posE L s) := by
      unfold ins posE
      have h2 := List.takeWhile_append_dropWhile (p := fun y : Entry => ltS y.stack s) (l := L)
      have e1 : L.take (L.takeWhile fun x => ltS x.stack s).length = L.takeWhile fun x => ltS x.stack s := by
        have : L.take (L.takeWhile fun x => ltS x.stack s).length = (L.takeWhile (fun x => ltS x.stack s) ++ L.dropWhile (fun x => ltS x.stack s)).take (L.takeWhile fun x => ltS x.stack s).length := by rw [h2]
        rw [this, List.take_left]
      have e2 : L.drop (L.takeWhile fun x => ltS x.stack s).length = L.dropWhile fun x => ltS x.stack s := by
        have : L.drop (L.takeWhile fun x => ltS x.stack s).length = (L.takeWhile (fun x => ltS x.stack s) ++ L.dropWhile (fun x => ltS x.stack s)).drop (L.takeWhile fun x => ltS x.stack s).length := by rw [h2]
        rw [this, List.drop_left]
      rw [e1, e2]
      rfl
    rw [← hins]
    exact ins_asc ltE_strict ha fun y hy => ltE_ne (hne y hy)
/-! ## the names beside a name -/
def namesE (e : Entry) : List ByteArray := (frsE e).map (·.name)
def nearK (s : ByteArray) (d : Int) (ns : List ByteArray) : Nat → List ByteArray
  | 0 => []
  | k + 1 => if ns.getD k ⟨#[]⟩ = s ∧ 0 ≤ (k : Int) + d ∧ (k : Int) + d < ns.length ∧ ns.getD ((k : Int) + d).toNat ⟨#[]⟩ ∉ nearK s d ns k then nearK s d ns k ++ [ns.getD ((k : Int) + d).toNat ⟨#[]⟩] else nearK s d ns k
theorem nearK_len (s : ByteArray) (d : Int) (ns : List ByteArray) : ∀ k, (nearK s d ns k).length ≤ k
  | 0 => by simp [nearK]
  | k + 1 => by
    have := nearK_len s d ns k
    rw [nearK]
    split
    · simp only [List.length_append, List.length_cons, List.length_nil]; omega
    · omega
def nearE (s : ByteArray) (d : Int) (e : Entry) : List ByteArray := nearK s d (namesE e) (namesE e).length
/-- the names of one entry, each counted -/
def addI (c : Int) (ns : List ByteArray) (L : List Entry) : List Entry := ns.foldl (fun L s => bump L s c) L
def addO (c : Int) (ns : List ByteArray) (L : List Entry) : List Entry := ns.foldl (fun L s => insB L s c) L
def nbI (s : ByteArray) (d : Int) (E : List Entry) : List Entry := E.foldl (fun L e => addI e.count (nearE s d e) L) []
def nbO (s : ByteArray) (d : Int) (E : List Entry) : List Entry := E.foldl (fun L e => addO e.count (nearE s d e) L) []
def addF' (c : Int) (ns : List ByteArray) (f : ByteArray → Option Int) : ByteArray → Option Int := ns.foldl (fun f s => updF f s c) f
def nbF (s : ByteArray) (d : Int) (E : List Entry) : ByteArray → Option Int := E.foldl (fun f e => addF' e.count (nearE s d e) f) (fun _ => none)
theorem addI_rep (c : Int) : ∀ (ns : List ByteArray) {L : List Entry} {f : ByteArray → Option Int}, Rep' L f → Rep' (addI c ns L) (addF' c ns f)
  | [], L, f, h => h
  | s :: ns, L, f, h => addI_rep c ns (h.bump s c)
theorem addO_rep (c : Int) : ∀ (ns : List ByteArray) {L : List Entry} {f : ByteArray → Option Int}, Rep' L f → Asc ltE L → Rep' (addO c ns L) (addF' c ns f) ∧ Asc ltE (addO c ns L)
  | [], L, f, h, h2 => ⟨h, h2⟩
  | s :: ns, L, f, h, h2 => addO_rep c ns (h.insB h2 s c).1 (h.insB h2 s c).2
theorem nbI_aux (s : ByteArray) (d : Int) : ∀ (E : List Entry) {L : List Entry} {f : ByteArray → Option Int}, Rep' L f → Rep' (E.foldl (fun L e => addI e.count (nearE s d e) L) L) (E.foldl (fun f e => addF' e.count (nearE s d e) f) f)
  | [], L, f, h => h
  | e :: E, L, f, h => nbI_aux s d E (addI_rep e.count (nearE s d e) h)
theorem nbO_aux (s : ByteArray) (d : Int) : ∀ (E : List Entry) {L : List Entry} {f : ByteArray → Option Int}, Rep' L f → Asc ltE L → Rep' (E.foldl (fun L e => addO e.count (nearE s d e) L) L) (E.foldl (fun f e => addF' e.count (nearE s d e) f) f) ∧ Asc ltE (E.foldl (fun L e => addO e.count (nearE s d e) L) L)
  | [], L, f, h, h2 => ⟨h, h2⟩
  | e :: E, L, f, h, h2 => nbO_aux s d E (addO_rep e.count (nearE s d e) h h2).1 (addO_rep e.count (nearE s d e) h h2).2
theorem nbI_rep (s : ByteArray) (d : Int) (E : List Entry) : Rep' (nbI s d E) (nbF s d E) := nbI_aux s d E Rep'.nil
theorem nbO_rep (s : ByteArray) (d : Int) (E : List Entry) : Rep' (nbO s d E) (nbF s d E) ∧ Asc ltE (nbO s d E) := nbO_aux s d E Rep'.nil .nil
theorem nbIO (s : ByteArray) (d : Int) (E : List Entry) : insAll ltE (nbI s d E) = nbO s d E ∧ (nbI s d E).Pairwise fun a b => ltE a b = true ∨ ltE b a = true := by
  have h1 := nbI_rep s d E
  obtain ⟨h2, h3⟩ := nbO_rep s d E
  have hp : (nbI s d E).Pairwise fun a b => ltE a b = true ∨ ltE b a = true := h1.nd.imp fun h => ltE_ne h
  refine ⟨(insAll_unique ltE_strict hp (h2.perm h1) ?_).symm, hp⟩
  exact List.Pairwise.imp (fun h => ltE_strict.asymm h) h3
/-! ## one more -/
theorem addI_succ (c : Int) {ns : List ByteArray} {j : Nat} (hj : j < ns.length) (L : List Entry) : addI c (ns.take (j + 1)) L = bump (addI c (ns.take j) L) ns[j] c := by
  unfold addI; rw [List.take_succ_eq_append_getElem hj, List.foldl_append]; rfl
theorem addO_succ (c : Int) {ns : List ByteArray} {j : Nat} (hj : j < ns.length) (L : List Entry) : addO c (ns.take (j + 1)) L = insB (addO c (ns.take j) L) ns[j] c := by
  unfold addO; rw [List.take_succ_eq_append_getElem hj, List.foldl_append]; rfl
theorem nbI_succ (s : ByteArray) (d : Int) {E : List Entry} {k : Nat} (hk : k < E.length) : nbI s d (E.take (k + 1)) = addI E[k].count (nearE s d E[k]) (nbI s d (E.take k)) := by
  unfold nbI; rw [List.take_succ_eq_append_getElem hk, List.foldl_append]; rfl
theorem nbO_succ (s : ByteArray) (d : Int) {E : List Entry} {k : Nat} (hk : k < E.length) : nbO s d (E.take (k + 1)) = addO E[k].count (nearE s d E[k]) (nbO s d (E.take k)) := by
  unfold nbO; rw [List.take_succ_eq_append_getElem hk, List.foldl_append]; rfl
theorem nbF_succ (s : ByteArray) (d : Int) {E : List Entry} {k : Nat} (hk : k < E.length) : nbF s d (E.take (k + 1)) = addF' E[k].count (nearE s d E[k]) (nbF s d (E.take k)) := by
  unfold nbF; rw [List.take_succ_eq_append_getElem hk, List.foldl_append]; rfl
theorem sumE_succ {E : List Entry} {k : Nat} (hk : k < E.length) : sumE (E.take (k + 1)) = sumE (E.take k) + E[k].count := by
  unfold sumE; rw [List.take_succ_eq_append_getElem hk, List.map_append, List.sum_append]; simp
/-! ## how large the counts are -/
theorem nearK_nodup (s : ByteArray) (d : Int) (ns : List ByteArray) : ∀ k, (nearK s d ns k).Nodup
  | 0 => by simp [nearK]
  | k + 1 => by
    have ih := nearK_nodup s d ns k
    rw [nearK]
    split
    · rename_i h
      rw [List.nodup_append]
      refine ⟨ih, by simp, fun a ha b hb => ?_⟩
      simp only [List.mem_cons, List.not_mem_nil, or_false] at hb
      rw [hb]
      exact fun e => h.2.2.2 (by rw [← e]; exact ha)
    · exact ih
def Bd (f : ByteArray → Option Int) (S : Int) (ns : List ByteArray) (c : Int) : Prop := ∀ t n, f t = some n → 0 ≤ n ∧ n ≤ S + (if t ∈ ns then c else 0)
theorem addF_bd {c S : Int} (hc : 0 ≤ c) (hS : 0 ≤ S) {f : ByteArray → Option Int} (h : Bd f S [] c) {ns : List ByteArray} (hn : ns.Nodup) : ∀ j, j ≤ ns.length → Bd (addF' c (ns.take j) f) S (ns.take j) c
  | 0, _ => by simpa [addF'] using h
  | j + 1, hj => by
    have ih := addF_bd hc hS h hn j (by omega)
    have hj' : j < ns.length := by omega
    have hnot : ns[j] ∉ ns.take j := fun hm => by
      obtain ⟨i, hi, he⟩ := List.mem_take_iff_getElem.1 hm
      have := (List.pairwise_iff_getElem.1 hn) i j (by omega) hj' (by omega)
      exact this he
    intro t n ht
    have e1 : addF' c (ns.take (j + 1)) f = updF (addF' c (ns.take j) f) ns[j] c := by
      unfold addF'; rw [List.take_succ_eq_append_getElem hj', List.foldl_append]; rfl
    rw [e1] at ht
    unfold updF at ht
    rw [List.take_succ_eq_append_getElem hj']
    by_cases h1 : t = ns[j]
    · rw [if_pos h1] at ht
      simp only [Option.some.injEq] at ht
      rw [if_pos (List.mem_append_right _ (List.mem_singleton.2 h1))]
      cases hq : addF' c (ns.take j) f ns[j] with
      | none => rw [hq] at ht; simp only [Option.getD_none] at ht; omega
      | some m =>
        have := ih _ _ hq
        rw [if_neg hnot] at this
        rw [hq] at ht; simp only [Option.getD_some] at ht; omega
    · rw [if_neg h1] at ht
      have := ih _ _ ht
      have e2 : (t ∈ ns.take j ++ [ns[j]]) ↔ t ∈ ns.take j := by rw [List.mem_append, List.mem_singleton]; exact ⟨fun h => h.resolve_right h1, .inl⟩
      simp only [e2]; exact this
theorem nbF_bd (s : ByteArray) (d : Int) {E : List Entry} (h : ∀ e ∈ E, 0 ≤ e.count) : ∀ k, k ≤ E.length → ∀ c, Bd (nbF s d (E.take k)) (sumE (E.take k)) [] c ∧ 0 ≤ sumE (E.take k)
  | 0, _, c => ⟨fun t n ht => by simp [nbF] at ht, by simp [sumE]⟩
  | k + 1, hk, c => by
    have hk' : k < E.length := by omega
    obtain ⟨ih, h0⟩ := nbF_bd s d h k (by omega) E[k].count
    have hc := h _ (List.getElem_mem hk')
    have h1 := addF_bd hc h0 ih (nearK_nodup s d (namesE E[k]) (namesE E[k]).length) _ (Nat.le_refl _)
    rw [List.take_length] at h1
    rw [sumE_succ hk', nbF_succ s d hk']
    refine ⟨fun t n ht => ?_, by omega⟩
    have := h1 t n ht
    simp only [List.not_mem_nil, if_false]
    split at this <;> omega
/-- what stands for a name that has not come up yet in this entry -/
theorem nb_room {s : ByteArray} {d : Int} {E : List Entry} (h : ∀ e ∈ E, 0 ≤ e.count) {k : Nat} (hk : k < E.length) {j : Nat} (hj : j < (nearE s d E[k]).length) {n : Int}
    (hn : addF' E[k].count ((nearE s d E[k]).take j) (nbF s d (E.take k)) (nearE s d E[k])[j] = some n) : 0 ≤ n ∧ n + E[k].count ≤ sumE (E.take (k + 1)) := by
  obtain ⟨h1, h0⟩ := nbF_bd s d h k (by omega) E[k].count
  have hc := h _ (List.getElem_mem hk)
  have hnd := nearK_nodup s d (namesE E[k]) (namesE E[k]).length
  have h2 := addF_bd hc h0 h1 hnd j (by unfold nearE at hj; omega)
  have h3 : 0 ≤ n ∧ n ≤ sumE (E.take k) + (if (nearE s d E[k])[j] ∈ (nearE s d E[k]).take j then E[k].count else 0) := h2 _ _ hn
  have hnot : (nearE s d E[k])[j] ∉ (nearE s d E[k]).take j := fun hm => by
    obtain ⟨i, hi, he⟩ := List.mem_take_iff_getElem.1 hm
    have := (List.pairwise_iff_getElem.1 hnd) i j (by unfold nearE at hj; omega) (by unfold nearE at hj; omega) (by omega)
    exact this he
  rw [if_neg hnot] at h3
  rw [sumE_succ hk]
  omega
end Go.Proofs.YtolnapfgfdgifaaGreatDoor

/-
  DERIVED. TicksOf, of the reference and of the program; the law's function.
-/
namespace Go.Proofs.YtolnapfgfdgifaaGreatDoor
open Go.Vc
set_option linter.unusedSimpArgs false
set_option linter.unusedVariables false
set_option maxHeartbeats 1000000
set_option maxRecDepth 10000
attribute [local go_sem] St.runR St.runW St.stepV offV St.step St.stepU St.stepG mkCond guardB St.prK St.pr St.prLen St.eff St.callE St.callD St.callF St.callL aI aB aS aR aC St.isM St.argL Ctr.pure Ctr.lend Ctr.move Ctr.isL Ctr.wri pur len lentBy St.lentV St.lent1 nthS argsR restOf obsR pairs swapL unObs backL St.resL erL SV.ren1 SV.up SV.up2 Ob.up St.fzL cellIds partIds St.intoRow SV.ownId St.fz SV.fz1 St.prep St.mvL St.mv SV.re1 rnOk St.prEq vals eqCells scEq Value.kd St.prStr St.prCut cutR St.bnd St.prMin St.bld isShift outL retL outJ oR oC St.ev St.get St.put St.new St.kill SV.kill SV.kill1 Ob.kill St.app St.wrt St.rowsOf St.res St.killL lk er argsL SV.strip SV.need SV.share SV.share1 SV.owns SV.owns1 SV.owns2 SV.good SV.good1 SV.rok SV.rok1 SV.rok2 SV.isV SV.isV2 nodupN SV.cells SV.one SV.pur partsIn rowsIn splice cellsAt dstOk scal2 scal1 thenK blockK retK outK outs okC okL okA okT nilC nilL nilA nilT keepC keepL keepA keepT St.runG St.dltK St.least St.clean St.final St.hide offK badS badO SV.refs SV.leaf SV.leaf2 Ob.refs dlOk fpAt Go.Vc.cover tups SV.ofAgg St.out outC subL St.has rng wr Value.oneCell' Option.isSome_some Option.isSome_none List.nil_append Bool.false_eq_true List.map_cons List.map_nil List.all_cons List.all_nil List.length_cons List.length_nil List.drop_zero List.drop_succ_cons List.take_succ_cons List.take_zero List.drop_nil List.take_nil List.getElem?_cons_zero List.getElem?_cons_succ List.getElem?_nil List.cons_append List.nil_append List.append_nil List.append_assoc List.flatMap_cons List.flatMap_nil List.contains_cons List.contains_nil List.set_cons_zero List.set_cons_succ List.getElem?_toArray Option.getD_some Option.getD_none Option.map_some Option.map_none Option.bind_some Option.some.injEq Prod.mk.injEq if_true if_false true_and and_true and_self and_false false_and Bool.and_false Bool.false_and Bool.or_true Bool.true_or Bool.or_false Bool.false_or ne_eq not_true_eq_false not_false_eq_true decide_true decide_false List.mem_cons List.not_mem_nil List.filter_cons List.filter_nil List.any_cons List.any_nil List.isEmpty_nil List.isEmpty_cons Option.getD_none or_false false_or true_or or_true forall_eq_or_imp forall_eq reduceCtorEq exists_eq exists_eq' exists_eq_left' exists_eq_left exists_eq_right exists_eq_right' imp_self implies_true Bool.and_true Bool.true_and Bool.and_self beq_self_eq_true List.replicate_succ List.replicate_zero forall_const false_implies pickB_or pickB_and beqT beqF Int.toNat_natCast List.length_map List.length_replicate ge_iff_le gt_iff_lt decide_eq_true_eq decide_eq_false_iff_not Bool.and_eq_true Bool.or_eq_true Bool.not_eq_true' Bool.not_eq_false' condG List.toList_toArray Bool.or_eq_false_iff Bool.and_eq_false_iff Int.not_lt Int.not_le beq_iff_eq beq_eq_false_iff_ne bne_iff_ne bne_eq_false_iff_eq ne_eq Bool.not_true Bool.not_false exists_and_left
attribute [local irreducible] Go.Vc.WP
attribute [local go_sem] cx0_t cx0_c
attribute [local go_sem] isV_Node isV_It isV_Entry decNode_enc decFrame_enc oneFrame_enc stkA oneFrame_ab oneNode_abc decI_enc decS_enc aU prA decEntry_enc St.fzS addL behind encI_inj
def scaleE (n : Int) (e : Entry) : Entry := ⟨e.stack, e.count * n⟩
def canScale (N : List Node) (C : List Int) (n : Int) : Prop := profileOk N C = true ∧ (1 ≤ n ∧ n ≤ 1000000000000) ∧ totalOf N C ≤ Int.tdiv 1000000000000 n
instance (N : List Node) (C : List Int) (n : Int) : Decidable (canScale N C n) := by unfold canScale; infer_instance
def scaleP (N : List Node) (C : List Int) (n : Int) : Option (List Node × List Int) := if canScale N C n then profileOf ((entriesOf N C).map (scaleE n)) else none
def halfE (n : Int) (E : List Entry) (k : Nat) : List Entry := (E.take k).map (scaleE n) ++ E.drop k
theorem halfE_len (n : Int) (E : List Entry) (k : Nat) : (halfE n E k).length = E.length := by unfold halfE; simp only [List.length_append, List.length_map, List.length_take, List.length_drop]; omega
theorem halfE_at {n : Int} {E : List Entry} {k : Nat} (hk : k < E.length) : (halfE n E k)[k]'(by rw [halfE_len]; exact hk) = E[k] := by
  unfold halfE
  rw [List.getElem_append_right (by simp only [List.length_map, List.length_take]; omega)]
  simp only [List.length_map, List.length_take, List.getElem_drop]
  congr 1
  omega
theorem halfE_set {n : Int} {E : List Entry} {k : Nat} (hk : k < E.length) : ((halfE n E k).map encEntry).set k (encEntry (scaleE n E[k])) = (halfE n E (k + 1)).map encEntry := by
  rw [← List.map_set]
  congr 1
  unfold halfE
  rw [List.set_append, if_neg (by simp only [List.length_map, List.length_take]; omega), List.drop_eq_getElem_cons hk, mp_succ (scaleE n) hk]
  have : k - ((E.take k).map (scaleE n)).length = 0 := by simp only [List.length_map, List.length_take]; omega
  rw [this, List.set_cons_zero]
  simp
theorem halfE_row {n : Int} {E : List Entry} {k : Nat} (hk : k < E.length) : Go.Vc.rowAt ((halfE n E k).map encEntry) k = encEntry E[k] := by
  rw [rowAt_map encEntry (halfE n E k) k (by rw [halfE_len]; exact hk), halfE_at hk]
theorem count_le {E : List Entry} (h : ∀ e ∈ E, 0 ≤ e.count) {k : Nat} (hk : k < E.length) : E[k].count ≤ sumE E := by
  have h1 := sumE_succ hk
  have h2 := (sumE_take_le h (k + 1)).2
  have h3 := (sumE_take_le h k).1
  omega
theorem scale_room {c t n : Int} (h0 : 0 ≤ c) (h1 : c ≤ t) (hn : 1 ≤ n) (ht : t ≤ Int.tdiv 1000000000000 n) : 0 ≤ c * n ∧ c * n ≤ 1000000000000 := by
  have h2 : Int.tdiv 1000000000000 n * n ≤ 1000000000000 := by
    rw [Int.tdiv_eq_ediv_of_nonneg (by omega)]
    exact Int.ediv_mul_le _ (by omega)
  have h3 : c * n ≤ Int.tdiv 1000000000000 n * n := Int.mul_le_mul_of_nonneg_right (by omega) (by omega)
  have h4 : 0 ≤ c * n := Int.mul_nonneg h0 (by omega)
  omega
def kTick : Ctr := pur (fun args => (prA args 0, aI args 1)) (fun x => [.agg [.sl 3 (x.1.1.map encNode), .sl 1 (x.1.2.map encI)], .v (.int .i64 x.2)])
  (fun x => (x.1.1.length ≤ 1048576 ∧ ∀ n ∈ x.1.1, n.name.size ≤ 1048576) ∧ x.1.2.length ≤ 1048576) (fun d x => .tup [.agg [.own d, .own (d + 1000)], .v (.bool (scaleP x.1.1 x.1.2 x.2).isSome)])
  (fun d x => [(d, .sl 130 3 (((scaleP x.1.1 x.1.2 x.2).getD ([], [])).1.map encNode)), (d + 1000, .sl 3 1 (((scaleP x.1.1 x.1.2 x.2).getD ([], [])).2.map encI))])
theorem wfE_scale {N : List Node} {C : List Int} (hN : N.length ≤ 1048576) (hC : C.length ≤ 1048576) (n : Int) : wfE ((entriesOf N C).map (scaleE n)) := by
  have h1 := entriesOf_len N C
  refine ⟨by rw [List.length_map]; omega, fun e he => ?_⟩
  obtain ⟨x, hx, rfl⟩ := List.mem_map.1 he
  exact (ent_sizes hN hx).1
theorem cant1 {N : List Node} {C : List Int} {n : Int} (h : profileOk N C = false) : scaleP N C n = none := if_neg fun hh => by rw [hh.1] at h; cases h
section
noncomputable def cxScS : Cx := { P := Tryz.prog, tys := tys, C := [(46, kPrOk), (47, k60), (61, kTotal), (48, kEnt), (79, kProfOf)], hty := tysOk, hC := COk.cons cPrOkS (COk.cons c58 (COk.cons cTotalS (COk.cons cEntS (COk.cons cProfOfS (COk.nil _))))) }
theorem cxScS_t : cxScS.tys = tys := rfl
theorem cxScS_c : cxScS.C = [(46, kPrOk), (47, k60), (61, kTotal), (48, kEnt), (79, kProfOf)] := rfl
attribute [local go_sem] cxScS_t cxScS_c kPrOk k60 kTotal kEnt kProfOf
theorem cScS : Cn Tryz.prog 84 kTick := by
  refine Cn.pur Tryz.func84 (by kernel_rfl) rfl fun d x hx => ?_
  obtain ⟨⟨N, C⟩, n⟩ := x
  obtain ⟨⟨hN, hs⟩, hC⟩ := hx
  simp only at hN hs hC ⊢
  have hlen := entriesOf_len N C
  refine Holds.go (c := cxScS) Tryz.func84 rfl Tryz.results84 Tryz.ntmps84 (by omega) (by simp) rfl ?_
  intro X0 w0
  cases hok : profileOk N C with
  | false =>
    have hr : scaleP N C n = none := if_neg fun h => by rw [h.1] at hok; cases hok
    (repeat' (first | refine WP.seq ?_ | refine WP.block ?_ | ((first | refine WP.region ?_ | refine WP.condW ?_ | refine WP.ret ?_ | refine WP.exit ?_ | refine WP.skip ?_); simp only [go_sem, hok, hr, tyAll, Nat.reduceAdd, Nat.reduceLT, Nat.reduceLeDiff, Nat.reduceEqDiff, Nat.reduceMul, Nat.reduceSub, Nat.reduceGT, reduceIte, Int.reduceNeg, Int.reduceToNat]) | (refine WP.drawW 15 (by decide +kernel) (by kernel_rfl) ?_; simp only [go_sem, hok, hr, tyAll, Nat.reduceAdd, Nat.reduceLT, Nat.reduceLeDiff, Nat.reduceEqDiff, Nat.reduceMul, Nat.reduceSub, Nat.reduceGT, reduceIte, Int.reduceNeg, Int.reduceToNat]) |  refine And.intro ?_ ?_ | intro _))
    all_goals first | omega | (simp only; omega) | exact Nat.le_trans (hs _ ‹_›) (by omega) | exact ⟨_, _, _, rfl⟩ | exact ⟨_, _, rfl, _, _, rfl, rfl⟩ | exact ⟨_, _, rfl⟩ | exact if_neg (by omega) | exact ⟨_, _, if_neg (by omega)⟩ | skip
    all_goals trace_state
  | true =>
  by_cases hrg : 1 ≤ n ∧ n ≤ 1000000000000
  rotate_left
  · have hr : scaleP N C n = none := if_neg fun h => hrg h.2.1
    have hrb : (decide (1 ≤ n) && decide (n ≤ 1000000000000)) = false := by
      rw [Bool.and_eq_false_iff, decide_eq_false_iff_not, decide_eq_false_iff_not]; omega
    (repeat' (first | refine WP.seq ?_ | refine WP.block ?_ | ((first | refine WP.region ?_ | refine WP.condW ?_ | refine WP.ret ?_ | refine WP.exit ?_ | refine WP.skip ?_); simp only [go_sem, hok, hr, hrb, tyAll, Nat.reduceAdd, Nat.reduceLT, Nat.reduceLeDiff, Nat.reduceEqDiff, Nat.reduceMul, Nat.reduceSub, Nat.reduceGT, reduceIte, Int.reduceNeg, Int.reduceToNat]) | (refine WP.drawW 15 (by decide +kernel) (by kernel_rfl) ?_; simp only [go_sem, hok, hr, hrb, tyAll, Nat.reduceAdd, Nat.reduceLT, Nat.reduceLeDiff, Nat.reduceEqDiff, Nat.reduceMul, Nat.reduceSub, Nat.reduceGT, reduceIte, Int.reduceNeg, Int.reduceToNat]) |  refine And.intro ?_ ?_ | intro _))
    all_goals first | omega | (simp only; omega) | exact Nat.le_trans (hs _ ‹_›) (by omega) | exact ⟨_, _, _, rfl⟩ | exact ⟨_, _, rfl, _, _, rfl, rfl⟩ | exact ⟨_, _, rfl⟩ | exact if_neg (by omega) | exact ⟨_, _, if_neg (by omega)⟩ | skip
    all_goals trace_state
  obtain ⟨c2, c3⟩ := hrg
  have hn0 : ¬ n = 0 := by omega
  have hdv : 0 ≤ Int.tdiv 1000000000000 n ∧ Int.tdiv 1000000000000 n ≤ 1000000000000 := by
    rw [Int.tdiv_eq_ediv_of_nonneg (by omega)]
    exact ⟨Int.ediv_nonneg (by omega) (by omega), Int.ediv_le_self _ (by omega)⟩
  by_cases hgt : Int.tdiv 1000000000000 n < totalOf N C
  · have hr : scaleP N C n = none := if_neg fun h => by have := h.2.2; omega
    (repeat' (first | refine WP.seq ?_ | refine WP.block ?_ | ((first | refine WP.region ?_ | refine WP.condW ?_ | refine WP.ret ?_ | refine WP.exit ?_ | refine WP.skip ?_); simp only [go_sem, hok, hr, c2, c3, hn0, hgt, tyAll, Nat.reduceAdd, Nat.reduceLT, Nat.reduceLeDiff, Nat.reduceEqDiff, Nat.reduceMul, Nat.reduceSub, Nat.reduceGT, reduceIte, Int.reduceNeg, Int.reduceToNat]) | (refine WP.drawW 15 (by decide +kernel) (by kernel_rfl) ?_; simp only [go_sem, hok, hr, c2, c3, hn0, hgt, tyAll, Nat.reduceAdd, Nat.reduceLT, Nat.reduceLeDiff, Nat.reduceEqDiff, Nat.reduceMul, Nat.reduceSub, Nat.reduceGT, reduceIte, Int.reduceNeg, Int.reduceToNat]) |  refine And.intro ?_ ?_ | intro _))
    all_goals first | omega | (simp only; omega) | exact Nat.le_trans (hs _ ‹_›) (by omega) | exact ⟨_, _, _, rfl⟩ | exact ⟨_, _, rfl, _, _, rfl, rfl⟩ | exact ⟨_, _, rfl⟩ | exact if_neg (by omega) | exact ⟨_, _, if_neg (by omega)⟩ | skip
    all_goals trace_state
  have hr : scaleP N C n = profileOf ((entriesOf N C).map (scaleE n)) := if_pos ⟨hok, ⟨c2, c3⟩, by omega⟩
  rw [hr]
  (repeat' (first | refine WP.seq ?_ | refine WP.block ?_ | ((first | refine WP.region ?_ | refine WP.condW ?_ | refine WP.ret ?_ | refine WP.exit ?_ | refine WP.skip ?_); simp only [go_sem, hok, c2, c3, hn0, hgt, tyAll, Nat.reduceAdd, Nat.reduceLT, Nat.reduceLeDiff, Nat.reduceEqDiff, Nat.reduceMul, Nat.reduceSub, Nat.reduceGT, reduceIte, Int.reduceNeg, Int.reduceToNat]) | (refine WP.drawW 15 (by decide +kernel) (by kernel_rfl) ?_; simp only [go_sem, hok, c2, c3, hn0, hgt, tyAll, Nat.reduceAdd, Nat.reduceLT, Nat.reduceLeDiff, Nat.reduceEqDiff, Nat.reduceMul, Nat.reduceSub, Nat.reduceGT, reduceIte, Int.reduceNeg, Int.reduceToNat]) |  refine And.intro ?_ ?_ | intro _))
  all_goals first | omega | (simp only; omega) | exact Nat.le_trans (hs _ ‹_›) (by omega) | exact ⟨_, _, _, rfl⟩ | skip
  refine WP.loop (fun k : Nat => ⟨[(1, .v (.int .i64 n)), (4, .ptr 4 0 0 0), (6, .own 27), (7, .v (.int .i64 k))], [(4, .box 35 [.v (.slice none 0 0), .v (.slice none 0 0)]), (27, .sl 66 2 ((halfE n (entriesOf N C) k).map encEntry))]⟩)
    (fun k => k ≤ (entriesOf N C).length) (fun k => (entriesOf N C).length - k) 0 (by simp) ?_ ?_
  · have e : halfE n (entriesOf N C) 0 = entriesOf N C := by simp [halfE]
    rw [e]; (simp only [go_sem, tyAll, Nat.reduceAdd, Nat.reduceLT, Nat.reduceLeDiff, Nat.reduceEqDiff, Nat.reduceMul, Nat.reduceSub, Nat.reduceGT, reduceIte, Int.reduceNeg, Int.reduceToNat] <;> (first | rfl | exact ⟨rfl, rfl⟩ | exact ⟨rfl, rfl, rfl⟩ | exact ⟨rfl, rfl, rfl, rfl⟩ | exact ⟨rfl, rfl, rfl, rfl, rfl⟩ | exact ⟨⟨rfl, rfl⟩, rfl⟩ | simp))
  intro k hk
  have h2 := halfE_len n (entriesOf N C) k
  by_cases hlt : k < (entriesOf N C).length
  · have hli : (k : Int) < (entriesOf N C).length := by omega
    have h1 := halfE_row (n := n) hlt
    have h3 := halfE_set (n := n) hlt
    simp only [encEntry, scaleE] at h3
    have hm := List.getElem_mem hlt
    have hct := count_le (E := entriesOf N C) ent_pos hlt
    rw [sumE_entries] at hct
    have hrm := scale_room (n := n) (ent_pos _ hm) hct c2 (by omega)
    (repeat' (first | refine WP.seq ?_ | refine WP.block ?_ | ((first | refine WP.region ?_ | refine WP.condW ?_ | refine WP.ret ?_ | refine WP.exit ?_ | refine WP.skip ?_); simp only [go_sem, hli, h1, h2, h3, encEntry, tyAll, Nat.reduceAdd, Nat.reduceLT, Nat.reduceLeDiff, Nat.reduceEqDiff, Nat.reduceMul, Nat.reduceSub, Nat.reduceGT, reduceIte, Int.reduceNeg, Int.reduceToNat]) | (refine WP.drawW 15 (by decide +kernel) (by kernel_rfl) ?_; simp only [go_sem, hli, h1, h2, h3, encEntry, tyAll, Nat.reduceAdd, Nat.reduceLT, Nat.reduceLeDiff, Nat.reduceEqDiff, Nat.reduceMul, Nat.reduceSub, Nat.reduceGT, reduceIte, Int.reduceNeg, Int.reduceToNat]) |  refine And.intro ?_ ?_ | intro _))
    all_goals first | omega | exact ⟨_, _, _, rfl⟩ | skip
    all_goals first | exact ⟨k + 1, by omega, by omega, by (first | rfl | exact ⟨rfl, rfl⟩ | exact ⟨rfl, rfl, rfl⟩ | exact ⟨rfl, rfl, rfl, rfl⟩ | exact ⟨rfl, rfl, rfl, rfl, rfl⟩ | exact ⟨⟨rfl, rfl⟩, rfl⟩ | simp)⟩ | trace_state
  · have hge : ¬ (k : Int) < (entriesOf N C).length := by omega
    have hke : k = (entriesOf N C).length := by omega
    have e : halfE n (entriesOf N C) k = (entriesOf N C).map (scaleE n) := by rw [hke]; simp [halfE]
    have hwf := wfE_scale (N := N) (C := C) hN hC n
    rw [e]
    (repeat' (first | refine WP.seq ?_ | refine WP.block ?_ | ((first | refine WP.region ?_ | refine WP.condW ?_ | refine WP.ret ?_ | refine WP.exit ?_ | refine WP.skip ?_); simp only [go_sem, hge, h2, tyAll, Nat.reduceAdd, Nat.reduceLT, Nat.reduceLeDiff, Nat.reduceEqDiff, Nat.reduceMul, Nat.reduceSub, Nat.reduceGT, reduceIte, Int.reduceNeg, Int.reduceToNat]) | (refine WP.drawW 15 (by decide +kernel) (by kernel_rfl) ?_; simp only [go_sem, hge, h2, tyAll, Nat.reduceAdd, Nat.reduceLT, Nat.reduceLeDiff, Nat.reduceEqDiff, Nat.reduceMul, Nat.reduceSub, Nat.reduceGT, reduceIte, Int.reduceNeg, Int.reduceToNat]) |  refine And.intro ?_ ?_ | intro _))
    all_goals first | omega | exact hwf.1 | exact hwf.2 _ ‹_› | exact ⟨_, _, _, rfl⟩ | exact ⟨_, _, rfl, _, _, rfl, rfl⟩ | exact if_neg (by omega) | exact ⟨_, _, if_neg (by omega)⟩ | exact ⟨_, _, rfl⟩ | skip
    all_goals trace_state
end
section
noncomputable def cxTkS : Cx := { P := Tryz.prog, tys := tys, C := [(84, kTick)], hty := tysOk, hC := COk.cons cScS (COk.nil _) }
theorem cxTkS_t : cxTkS.tys = tys := rfl
theorem cxTkS_c : cxTkS.C = [(84, kTick)] := rfl
attribute [local go_sem] cxTkS_t cxTkS_c kTick
theorem cTickS : Cn Tryz.prog 38 kTick := by
  refine Cn.pur Tryz.func38 (by kernel_rfl) rfl fun d x hx => ?_
  obtain ⟨⟨N, C⟩, n⟩ := x
  obtain ⟨⟨hN, hs⟩, hC⟩ := hx
  simp only at hN hs hC ⊢
  refine Holds.go (c := cxTkS) Tryz.func38 rfl Tryz.results38 Tryz.ntmps38 (by omega) (by simp) rfl ?_
  intro X0 w0
  (repeat' (first | refine WP.seq ?_ | refine WP.block ?_ | ((first | refine WP.region ?_ | refine WP.condW ?_ | refine WP.ret ?_ | refine WP.exit ?_ | refine WP.skip ?_); simp only [go_sem, tyAll, Nat.reduceAdd, Nat.reduceLT, Nat.reduceLeDiff, Nat.reduceEqDiff, Nat.reduceMul, Nat.reduceSub, Nat.reduceGT, reduceIte, Int.reduceNeg, Int.reduceToNat]) |  refine And.intro ?_ ?_ | intro _))
  all_goals first | omega | exact hs _ ‹_› | exact ⟨_, _, _, rfl⟩ | exact ⟨_, _, rfl, _, _, rfl, rfl⟩ | exact if_neg (by omega) | exact ⟨_, _, if_neg (by omega)⟩ | exact ⟨_, _, rfl⟩ | skip
  all_goals trace_state
end
section
noncomputable def cxScI : Cx := { P := Tryz.prog, tys := tys, C := [(52, kPrOk), (53, k60), (62, kTotal), (54, kEnt), (119, kProfOf)], hty := tysOk, hC := COk.cons cPrOkI (COk.cons c60 (COk.cons cTotalI (COk.cons cEntI (COk.cons cProfOfI (COk.nil _))))) }
theorem cxScI_t : cxScI.tys = tys := rfl
theorem cxScI_c : cxScI.C = [(52, kPrOk), (53, k60), (62, kTotal), (54, kEnt), (119, kProfOf)] := rfl
attribute [local go_sem] cxScI_t cxScI_c kPrOk k60 kTotal kEnt kProfOf
theorem cScI : Cn Tryz.prog 85 kTick := by
  refine Cn.pur Tryz.func85 (by kernel_rfl) rfl fun d x hx => ?_
  obtain ⟨⟨N, C⟩, n⟩ := x
  obtain ⟨⟨hN, hs⟩, hC⟩ := hx
  simp only at hN hs hC ⊢
  have hlen := entriesOf_len N C
  refine Holds.go (c := cxScI) Tryz.func85 rfl Tryz.results85 Tryz.ntmps85 (by omega) (by simp) rfl ?_
  intro X0 w0
  cases hok : profileOk N C with
  | false =>
    have hr : scaleP N C n = none := if_neg fun h => by rw [h.1] at hok; cases hok
    (repeat' (first | refine WP.seq ?_ | refine WP.block ?_ | ((first | refine WP.region ?_ | refine WP.condW ?_ | refine WP.ret ?_ | refine WP.exit ?_ | refine WP.skip ?_); simp only [go_sem, hok, hr, tyAll, Nat.reduceAdd, Nat.reduceLT, Nat.reduceLeDiff, Nat.reduceEqDiff, Nat.reduceMul, Nat.reduceSub, Nat.reduceGT, reduceIte, Int.reduceNeg, Int.reduceToNat]) | (refine WP.drawW 15 (by decide +kernel) (by kernel_rfl) ?_; simp only [go_sem, hok, hr, tyAll, Nat.reduceAdd, Nat.reduceLT, Nat.reduceLeDiff, Nat.reduceEqDiff, Nat.reduceMul, Nat.reduceSub, Nat.reduceGT, reduceIte, Int.reduceNeg, Int.reduceToNat]) |  refine And.intro ?_ ?_ | intro _))
    all_goals first | omega | (simp only; omega) | exact Nat.le_trans (hs _ ‹_›) (by omega) | exact ⟨_, _, _, rfl⟩ | exact ⟨_, _, rfl, _, _, rfl, rfl⟩ | exact ⟨_, _, rfl⟩ | exact if_neg (by omega) | exact ⟨_, _, if_neg (by omega)⟩ | skip
    all_goals trace_state
  | true =>
  by_cases hrg : 1 ≤ n ∧ n ≤ 1000000000000
  rotate_left
  · have hr : scaleP N C n = none := if_neg fun h => hrg h.2.1
    have hrb : (decide (1 ≤ n) && decide (n ≤ 1000000000000)) = false := by
      rw [Bool.and_eq_false_iff, decide_eq_false_iff_not, decide_eq_false_iff_not]; omega
    (repeat' (first | refine WP.seq ?_ | refine WP.block ?_ | ((first | refine WP.region ?_ | refine WP.condW ?_ | refine WP.ret ?_ | refine WP.exit ?_ | refine WP.skip ?_); simp only [go_sem, hok, hr, hrb, tyAll, Nat.reduceAdd, Nat.reduceLT, Nat.reduceLeDiff, Nat.reduceEqDiff, Nat.reduceMul, Nat.reduceSub, Nat.reduceGT, reduceIte, Int.reduceNeg, Int.reduceToNat]) | (refine WP.drawW 15 (by decide +kernel) (by kernel_rfl) ?_; simp only [go_sem, hok, hr, hrb, tyAll, Nat.reduceAdd, Nat.reduceLT, Nat.reduceLeDiff, Nat.reduceEqDiff, Nat.reduceMul, Nat.reduceSub, Nat.reduceGT, reduceIte, Int.reduceNeg, Int.reduceToNat]) |  refine And.intro ?_ ?_ | intro _))
    all_goals first | omega | (simp only; omega) | exact Nat.le_trans (hs _ ‹_›) (by omega) | exact ⟨_, _, _, rfl⟩ | exact ⟨_, _, rfl, _, _, rfl, rfl⟩ | exact ⟨_, _, rfl⟩ | exact if_neg (by omega) | exact ⟨_, _, if_neg (by omega)⟩ | skip
    all_goals trace_state
  obtain ⟨c2, c3⟩ := hrg
  have hn0 : ¬ n = 0 := by omega
  have hdv : 0 ≤ Int.tdiv 1000000000000 n ∧ Int.tdiv 1000000000000 n ≤ 1000000000000 := by
    rw [Int.tdiv_eq_ediv_of_nonneg (by omega)]
    exact ⟨Int.ediv_nonneg (by omega) (by omega), Int.ediv_le_self _ (by omega)⟩
  by_cases hgt : Int.tdiv 1000000000000 n < totalOf N C
  · have hr : scaleP N C n = none := if_neg fun h => by have := h.2.2; omega
    (repeat' (first | refine WP.seq ?_ | refine WP.block ?_ | ((first | refine WP.region ?_ | refine WP.condW ?_ | refine WP.ret ?_ | refine WP.exit ?_ | refine WP.skip ?_); simp only [go_sem, hok, hr, c2, c3, hn0, hgt, tyAll, Nat.reduceAdd, Nat.reduceLT, Nat.reduceLeDiff, Nat.reduceEqDiff, Nat.reduceMul, Nat.reduceSub, Nat.reduceGT, reduceIte, Int.reduceNeg, Int.reduceToNat]) | (refine WP.drawW 15 (by decide +kernel) (by kernel_rfl) ?_; simp only [go_sem, hok, hr, c2, c3, hn0, hgt, tyAll, Nat.reduceAdd, Nat.reduceLT, Nat.reduceLeDiff, Nat.reduceEqDiff, Nat.reduceMul, Nat.reduceSub, Nat.reduceGT, reduceIte, Int.reduceNeg, Int.reduceToNat]) |  refine And.intro ?_ ?_ | intro _))
    all_goals first | omega | (simp only; omega) | exact Nat.le_trans (hs _ ‹_›) (by omega) | exact ⟨_, _, _, rfl⟩ | exact ⟨_, _, rfl, _, _, rfl, rfl⟩ | exact ⟨_, _, rfl⟩ | exact if_neg (by omega) | exact ⟨_, _, if_neg (by omega)⟩ | skip
    all_goals trace_state
  have hr : scaleP N C n = profileOf ((entriesOf N C).map (scaleE n)) := if_pos ⟨hok, ⟨c2, c3⟩, by omega⟩
  rw [hr]
  (repeat' (first | refine WP.seq ?_ | refine WP.block ?_ | ((first | refine WP.region ?_ | refine WP.condW ?_ | refine WP.ret ?_ | refine WP.exit ?_ | refine WP.skip ?_); simp only [go_sem, hok, c2, c3, hn0, hgt, tyAll, Nat.reduceAdd, Nat.reduceLT, Nat.reduceLeDiff, Nat.reduceEqDiff, Nat.reduceMul, Nat.reduceSub, Nat.reduceGT, reduceIte, Int.reduceNeg, Int.reduceToNat]) | (refine WP.drawW 15 (by decide +kernel) (by kernel_rfl) ?_; simp only [go_sem, hok, c2, c3, hn0, hgt, tyAll, Nat.reduceAdd, Nat.reduceLT, Nat.reduceLeDiff, Nat.reduceEqDiff, Nat.reduceMul, Nat.reduceSub, Nat.reduceGT, reduceIte, Int.reduceNeg, Int.reduceToNat]) |  refine And.intro ?_ ?_ | intro _))
  all_goals first | omega | (simp only; omega) | exact Nat.le_trans (hs _ ‹_›) (by omega) | exact ⟨_, _, _, rfl⟩ | skip
  refine WP.loop (fun k : Nat => ⟨[(1, .v (.int .i64 n)), (4, .ptr 4 0 0 0), (6, .own 25), (27, .v (.int .i64 (entriesOf N C).length)), (28, .v (.int .i64 k))], [(4, .box 35 [.v (.slice none 0 0), .v (.slice none 0 0)]), (25, .sl 66 2 ((halfE n (entriesOf N C) k).map encEntry))]⟩)
    (fun k => k ≤ (entriesOf N C).length) (fun k => (entriesOf N C).length - k) 0 (by simp) ?_ ?_
  · have e : halfE n (entriesOf N C) 0 = entriesOf N C := by simp [halfE]
    rw [e]; (simp only [go_sem, tyAll, Nat.reduceAdd, Nat.reduceLT, Nat.reduceLeDiff, Nat.reduceEqDiff, Nat.reduceMul, Nat.reduceSub, Nat.reduceGT, reduceIte, Int.reduceNeg, Int.reduceToNat] <;> (first | rfl | exact ⟨rfl, rfl⟩ | exact ⟨rfl, rfl, rfl⟩ | exact ⟨rfl, rfl, rfl, rfl⟩ | exact ⟨rfl, rfl, rfl, rfl, rfl⟩ | exact ⟨⟨rfl, rfl⟩, rfl⟩ | simp))
  intro k hk
  have h2 := halfE_len n (entriesOf N C) k
  by_cases hlt : k < (entriesOf N C).length
  · have hli : (k : Int) < (entriesOf N C).length := by omega
    have h1 := halfE_row (n := n) hlt
    have h3 := halfE_set (n := n) hlt
    simp only [encEntry, scaleE] at h3
    have hm := List.getElem_mem hlt
    have hct := count_le (E := entriesOf N C) ent_pos hlt
    rw [sumE_entries] at hct
    have hrm := scale_room (n := n) (ent_pos _ hm) hct c2 (by omega)
    (repeat' (first | refine WP.seq ?_ | refine WP.block ?_ | ((first | refine WP.region ?_ | refine WP.condW ?_ | refine WP.ret ?_ | refine WP.exit ?_ | refine WP.skip ?_); simp only [go_sem, hli, h1, h2, h3, encEntry, tyAll, Nat.reduceAdd, Nat.reduceLT, Nat.reduceLeDiff, Nat.reduceEqDiff, Nat.reduceMul, Nat.reduceSub, Nat.reduceGT, reduceIte, Int.reduceNeg, Int.reduceToNat]) | (refine WP.drawW 15 (by decide +kernel) (by kernel_rfl) ?_; simp only [go_sem, hli, h1, h2, h3, encEntry, tyAll, Nat.reduceAdd, Nat.reduceLT, Nat.reduceLeDiff, Nat.reduceEqDiff, Nat.reduceMul, Nat.reduceSub, Nat.reduceGT, reduceIte, Int.reduceNeg, Int.reduceToNat]) |  refine And.intro ?_ ?_ | intro _))
    all_goals first | omega | exact ⟨_, _, _, rfl⟩ | skip
    all_goals first | exact ⟨k + 1, by omega, by omega, by (first | rfl | exact ⟨rfl, rfl⟩ | exact ⟨rfl, rfl, rfl⟩ | exact ⟨rfl, rfl, rfl, rfl⟩ | exact ⟨rfl, rfl, rfl, rfl, rfl⟩ | exact ⟨⟨rfl, rfl⟩, rfl⟩ | simp)⟩ | trace_state
  · have hge : ¬ (k : Int) < (entriesOf N C).length := by omega
    have hke : k = (entriesOf N C).length := by omega
    have e : halfE n (entriesOf N C) k = (entriesOf N C).map (scaleE n) := by rw [hke]; simp [halfE]
    have hwf := wfE_scale (N := N) (C := C) hN hC n
    rw [e]
    (repeat' (first | refine WP.seq ?_ | refine WP.block ?_ | ((first | refine WP.region ?_ | refine WP.condW ?_ | refine WP.ret ?_ | refine WP.exit ?_ | refine WP.skip ?_); simp only [go_sem, hge, h2, tyAll, Nat.reduceAdd, Nat.reduceLT, Nat.reduceLeDiff, Nat.reduceEqDiff, Nat.reduceMul, Nat.reduceSub, Nat.reduceGT, reduceIte, Int.reduceNeg, Int.reduceToNat]) | (refine WP.drawW 15 (by decide +kernel) (by kernel_rfl) ?_; simp only [go_sem, hge, h2, tyAll, Nat.reduceAdd, Nat.reduceLT, Nat.reduceLeDiff, Nat.reduceEqDiff, Nat.reduceMul, Nat.reduceSub, Nat.reduceGT, reduceIte, Int.reduceNeg, Int.reduceToNat]) |  refine And.intro ?_ ?_ | intro _))
    all_goals first | omega | exact hwf.1 | exact hwf.2 _ ‹_› | exact ⟨_, _, _, rfl⟩ | exact ⟨_, _, rfl, _, _, rfl, rfl⟩ | exact if_neg (by omega) | exact ⟨_, _, if_neg (by omega)⟩ | exact ⟨_, _, rfl⟩ | skip
    all_goals trace_state
end
section
noncomputable def cxTkI : Cx := { P := Tryz.prog, tys := tys, C := [(85, kTick)], hty := tysOk, hC := COk.cons cScI (COk.nil _) }
theorem cxTkI_t : cxTkI.tys = tys := rfl
theorem cxTkI_c : cxTkI.C = [(85, kTick)] := rfl
attribute [local go_sem] cxTkI_t cxTkI_c kTick
theorem cTickI : Cn Tryz.prog 39 kTick := by
  refine Cn.pur Tryz.func39 (by kernel_rfl) rfl fun d x hx => ?_
  obtain ⟨⟨N, C⟩, n⟩ := x
  obtain ⟨⟨hN, hs⟩, hC⟩ := hx
  simp only at hN hs hC ⊢
  refine Holds.go (c := cxTkI) Tryz.func39 rfl Tryz.results39 Tryz.ntmps39 (by omega) (by simp) rfl ?_
  intro X0 w0
  (repeat' (first | refine WP.seq ?_ | refine WP.block ?_ | ((first | refine WP.region ?_ | refine WP.condW ?_ | refine WP.ret ?_ | refine WP.exit ?_ | refine WP.skip ?_); simp only [go_sem, tyAll, Nat.reduceAdd, Nat.reduceLT, Nat.reduceLeDiff, Nat.reduceEqDiff, Nat.reduceMul, Nat.reduceSub, Nat.reduceGT, reduceIte, Int.reduceNeg, Int.reduceToNat]) |  refine And.intro ?_ ?_ | intro _))
  all_goals first | omega | exact hs _ ‹_› | exact ⟨_, _, _, rfl⟩ | exact ⟨_, _, rfl, _, _, rfl, rfl⟩ | exact if_neg (by omega) | exact ⟨_, _, if_neg (by omega)⟩ | exact ⟨_, _, rfl⟩ | skip
  all_goals trace_state
end
section
noncomputable def cxTkL : Cx := { P := Tryz.prog, tys := tys, C := [(12, kszPr), (14, ktoPr), (17, keqPr), (18, kmarkPr), (37, kheldPr), (38, kTick), (39, kTick)], hty := tysOk, hC := COk.cons cszPr (COk.cons ctoPr (COk.cons ceqPr (COk.cons cmarkPr (COk.cons cheldPr (COk.cons cTickS (COk.cons cTickI (COk.nil _))))))) }
theorem cxTkL_t : cxTkL.tys = tys := rfl
theorem cxTkL_c : cxTkL.C = [(12, kszPr), (14, ktoPr), (17, keqPr), (18, kmarkPr), (37, kheldPr), (38, kTick), (39, kTick)] := rfl
attribute [local go_sem] cxTkL_t cxTkL_c kszPr ktoPr keqPr kmarkPr kheldPr kTick
theorem scaleP_len {N : List Node} {C : List Int} (hN : N.length ≤ 1048576) (hC : C.length ≤ 1048576) (n : Int) : ((scaleP N C n).getD ([], [])).1.length ≤ 3298534883328 ∧ ((scaleP N C n).getD ([], [])).2.length ≤ 3298534883328 := by
  unfold scaleP
  split
  · exact profileOf_len (wfE_scale hN hC n)
  · simp
theorem lawTicksOf (x : List Node × List Int) (n : Int) (hx : wfM x) : Holds Tryz.prog 9 [.agg [.sl 3 (x.1.map encNode), .sl 1 (x.2.map encI)], .v (.int .i64 n)] (.v (.bool true)) [] := by
  obtain ⟨N, C⟩ := x
  obtain ⟨hN, hs, hC⟩ := hx
  simp only at hN hs hC ⊢
  refine Holds.go (c := cxTkL) Tryz.func9 rfl Tryz.results9 Tryz.ntmps9 (by omega) (by simp) rfl ?_
  intro X0 w0
  have key : 0 ≤ szvPr (N, C) 1048576 → (N.length ≤ 1048576 ∧ ∀ n ∈ N, n.name.size ≤ 1048576) ∧ C.length ≤ 1048576 := fun h => szvPr_ok (x := (N, C)) (l := 1048576) (Int.le_refl _) (Int.not_lt.2 h)
  have key1 : 0 ≤ szvPr (N, C) 1048576 → N.length ≤ 1048576 := fun h => (key h).1.1
  have key2 : 0 ≤ szvPr (N, C) 1048576 → C.length ≤ 1048576 := fun h => (key h).2
  have key3 : 0 ≤ szvPr (N, C) 1048576 → (((scaleP N C n).getD ([], [])).1.length ≤ 3298534883328 ∧ ((scaleP N C n).getD ([], [])).2.length ≤ 3298534883328) := fun h => scaleP_len (key1 h) (key2 h) n
  have key4 : 0 ≤ szvPr (N, C) 1048576 → ((scaleP N C n).getD ([], [])).1.length ≤ 4398046511104 := fun h => by have := (key3 h).1; omega
  have key5 : 0 ≤ szvPr (N, C) 1048576 → ((scaleP N C n).getD ([], [])).2.length ≤ 4398046511104 := fun h => by have := (key3 h).2; omega
  generalize hP : (scaleP N C n).getD ([], []) = P at key3 key4 key5
  have m1 := marksNode_len 1 P.1.length
  have m2 := marksI_len (1 + 3 * P.1.length) P.2.length
  (repeat' (first | refine WP.seq ?_ | refine WP.block ?_ | ((first | refine WP.region ?_ | refine WP.condW ?_ | refine WP.ret ?_ | refine WP.exit ?_ | refine WP.skip ?_); simp only [go_sem, m1, m2, hP, tyAll, Nat.reduceAdd, Nat.reduceLT, Nat.reduceLeDiff, Nat.reduceEqDiff, Nat.reduceMul, Nat.reduceSub, Nat.reduceGT, reduceIte, Int.reduceNeg, Int.reduceToNat]) | (refine WP.flowW 3 [⟨[8], [], [], [47, 1047], [], []⟩, ⟨[2], [], [], [47, 1047], [], []⟩, ⟨[46], [1], [], [], [], [47, 1047]⟩, ⟨[], [0, 1, 2], [], [], [], []⟩, ⟨[], [0, 1, 2, 3], [], [], [], []⟩] [45, 46, 47] [47, 1047] [] (by decide +kernel) (by kernel_rfl) (by kernel_rfl) (by kernel_rfl) ?_; simp only [go_sem, m1, m2, hP, tyAll, Nat.reduceAdd, Nat.reduceLT, Nat.reduceLeDiff, Nat.reduceEqDiff, Nat.reduceMul, Nat.reduceSub, Nat.reduceGT, reduceIte, Int.reduceNeg, Int.reduceToNat]) |  refine And.intro ?_ ?_ | intro _))
  all_goals first | omega | exact ⟨_, _, _, rfl⟩ | exact hs _ ‹_› | exact Nat.le_trans (key1 ‹_›) (by omega) | exact Nat.le_trans (key2 ‹_›) (by omega) | exact Nat.le_trans ((key ‹_›).1.2 _ ‹_›) (by omega) | exact key4 ‹_› | exact key5 ‹_› | skip
  all_goals trace_state
end
end Go.Proofs.YtolnapfgfdgifaaGreatDoor
