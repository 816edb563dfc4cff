/-
  DERIVED. The library's sort of structs, as a contract of a list that is lent.
-/
import Derived.Test.YtolnapfgfdgifaaDoorVcU
import Derived.Test.YtolnapfgfdgifaaDoorVpOrd
import Derived.Shelf.SlSortCmp.WholeK
import Derived.Shelf.SlSortCmp.NoneTotal
namespace Go.Vc
open Go.Pl
set_option linter.unusedVariables false

theorem vrows_map {α : Type} (enc : α → List Value) (en : α → List SV) (h : ∀ x, (enc x).map SV.v = en x) (L : List α) : vrows (L.map enc) = L.map en := by
  unfold vrows
  rw [List.map_map]
  exact List.map_congr_left fun x _ => h x

theorem sortK_holdsL {P : Program} {ρ : Go.Shelf.Ren} (L : Go.Proofs.SlLaysF0.n6 P ρ) {α : Type} [Inhabited α] (k : Nat) (hk0 : 0 < k) (aE : ∀ w, (isAgg (ρ.t 24)).run P w = .ok true w) (zE : ∀ w, (Go.sizeOf (ρ.t 24)).run P w = .ok k w)
    (enc : α → List Value) (hk : ∀ x, (enc x).length = k) (h1 : ∀ x, ∀ v ∈ enc x, v.oneCell' = true) (cf : α → α → Int) (hO : Go.Sort.SWO (Go.Proofs.ltOf cf)) (g : Nat) (eg : ∀ args w, (callFunc g args).run P w = .ok (.enter g args) w)
    (hcmp : ∀ blk off size w, Go.Proofs.CmpLays P g #[] enc k cf blk off size w) (lt : α → α → Bool) (hlt : ∀ x y, Go.Proofs.ltOf cf x y = lt x y) (hS : Strict lt) (e : Nat) (M : List α) (hM : M.length ≤ 1099511627776)
    (hp : M.Pairwise fun a b => lt a b = true ∨ lt b a = true) :
    HoldsL P (ρ.f 6) (.own 1000000 :: [.fn g []]) [(1000000, .sl e k (vrows (M.map enc)))] (.tup []) [] [(1000000, .sl e k (vrows ((insAll lt M).map enc)))] := by
  have fnv : ∀ {w : World} {us : List Value}, us.length = [SV.fn g []].length → (∀ (i : Nat) (c : SV) (u : Value), [SV.fn g []][i]? = some c → us[i]? = some u → R w (fun _ => False) (fun _ => .slice none 0 0) c u) → us = [.func (.func g) #[] #[]] := fun {w us} hl ha => by
    match us, hl with
    | [u], _ =>
      obtain ⟨cs, rfl, hcl, _⟩ := (ha 0 _ u rfl rfl).fn_inv
      have : cs = [] := List.eq_nil_of_length_eq_zero (by simpa using hcl.symm)
      subst this; rfl
  refine HoldsL.cells (fun r hr => by obtain ⟨x, _, rfl⟩ := List.mem_map.1 hr; exact hk x) (by simp [insAll_len]) (fun r hr => by obtain ⟨x, _, rfl⟩ := List.mem_map.1 hr; exact hk x)
    (fun r hr u hu => by obtain ⟨x, _, rfl⟩ := List.mem_map.1 hr; exact h1 x u hu) (fun hn w us hl ha => ?_) (fun c hc => by simp only [List.mem_cons, List.not_mem_nil, or_false] at hc; exact .inl ⟨g, hc⟩) (fun w b cap cur us hG hh hrc hcm hsz hcell hl ha => ?_)
  · rw [fnv hl ha]
    exact (Go.Proofs.AnyF.slices_SortFunc_none L none 0 _ w).mono fun en w' ⟨he, hw⟩ => ⟨he, by rw [hw]; exact Go.RowKit.Below.refl _ _⟩
  · rw [fnv hl ha, List.length_map]
    have hd : M.toArray.size = M.length := by simp
    have hH : Go.Sort.HoldsK enc k w b 0 M.toArray := holds_cells (enc := id) hh (fun j hj => by
      rw [Go.Sort.size_flatK, hd] at hj
      rw [Go.Sort.get_flatK enc k _ j (by rw [hd]; exact hj)]
      have hq : j / k < M.length := Nat.div_lt_of_lt_mul (by rw [Nat.mul_comm]; exact hj)
      have hr : j % k < k := Nat.mod_lt _ hk0
      have hrow : (M.map enc)[j / k]? = some (enc M[j / k]) := by rw [List.getElem?_map, List.getElem?_eq_getElem hq]; rfl
      have hu : (enc M[j / k])[j % k]? = some ((enc M[j / k])[j % k]'(by rw [hk]; exact hr)) := List.getElem?_eq_getElem _
      have h2 := (hcell (j / k) (j % k) _ _ hrow hu).1
      have e1 : j / k * k + j % k = j := by rw [Nat.mul_comm]; exact Nat.div_add_mod j k
      rw [e1] at h2
      have e2 : M.toArray[j / k]! = M[j / k] := by rw [getElem!_pos _ _ (by simpa using hq)]; simp
      rw [h2, e2, getElem!_pos _ _ (by rw [hk]; exact hr)]; rfl)
    have hs := Go.Proofs.AnyQ.slices_SortFunc L k aE zE enc hk h1 cf hO g #[] b 0 cap M.toArray w eg (hcmp _ _ _ _) hH (lt_of_heap hh) (by rw [hd]; omega)
    rw [hd] at hs
    refine hs.mono fun en w' ⟨he, d', n, os, hpm, hst, hw⟩ => ⟨he, ?_⟩
    have hsize : d'.size = M.length := by rw [hpm.1, hd]
    have hperm : d'.toList.Perm M := by
      have := hpm.2.2
      have e1 : d'.extract 0 M.length = d' := Array.extract_eq_self_of_le (by omega)
      have e2 : M.toArray.extract 0 M.length = M.toArray := Array.extract_eq_self_of_le (by rw [hd]; exact Nat.le_refl _)
      rw [e1, e2] at this
      simpa using this
    have hsorted : d'.toList.Pairwise fun a b => lt b a = false := by
      rw [List.pairwise_iff_getElem]
      intro i j hi hj hij
      have h3 := hst i j (Nat.zero_le _) hij (by simpa [hsize] using hj)
      rw [hlt] at h3
      have hi' : i < d'.size := by simpa using hi
      have hj' : j < d'.size := by simpa using hj
      rw [getElem!_pos d' i hi', getElem!_pos d' j hj'] at h3
      simpa using h3
    have hins := insAll_unique hS hp hperm hsorted
    have hfl : (Go.Sort.flatK enc k d').size ≤ cur.size := by
      rw [Go.Sort.size_flatK, hsize, hsz]
      exact Nat.mul_le_mul_right k (by simpa using hrc)
    obtain ⟨hU, hnew⟩ := upd_putRow (id : Value → Value) n (Go.Sort.flatK enc k d') os hh hfl
    refine ⟨_, by rw [hw]; exact hU, fun i c r u hr hu => ?_⟩
    rw [← hins, List.getElem?_map] at hr
    have hil : i < d'.size := by
      by_cases h : i < d'.toList.length
      · simpa using h
      · rw [List.getElem?_eq_none (by omega)] at hr; cases hr
    rw [Array.getElem?_toList, Array.getElem?_eq_getElem hil] at hr
    simp only [Option.map_some, Option.some.injEq] at hr
    subst hr
    have hc : c < k := by rw [← hk d'[i]]; exact (List.getElem?_eq_some_iff.1 hu).1
    have hlt' : i * k + c < d'.size * k := by
      have := Nat.mul_le_mul_right k (show i + 1 ≤ d'.size from hil)
      rw [Nat.add_mul, Nat.one_mul] at this; omega
    have e1 : (i * k + c) / k = i := by rw [Nat.mul_comm, Nat.mul_add_div hk0, Nat.div_eq_of_lt hc]; rfl
    have e2 : (i * k + c) % k = c := by rw [Nat.mul_comm, Nat.mul_add_mod, Nat.mod_eq_of_lt hc]
    rw [hnew _ (by rw [Go.Sort.size_flatK]; exact hlt'), Go.Sort.get_flatK enc k d' _ hlt', e1, e2, getElem!_pos d' i hil]
    obtain ⟨hcl, hcv⟩ := List.getElem?_eq_some_iff.1 hu
    rw [getElem!_pos (enc d'[i]) c hcl, hcv]; rfl
end Go.Vc
