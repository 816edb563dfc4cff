/-
  DERIVED. Several texts of ours in one: VsLayS, VcV, VtSortE, VtEnI, VtSamI, VtNum, VtFld, VpText, VtTot, VtPrL, VtFold, VpFText, VtPrZ, VtFTextL, VcY, VtPrR.
-/
import Derived.Test.YtklcphbgaeiegaaGreatDoorVq0
import Derived.Test.YtklcphbgaeiegaaGreatDoorVq1
import Derived.Test.YtklcphbgaeiegaaGreatDoorVq2
import Derived.Test.YtklcphbgaeiegaaGreatDoorVq3
import Derived.Test.YtklcphbgaeiegaaGreatDoorVq4
import Derived.Test.YtklcphbgaeiegaaGreatDoorVq5
import Derived.Test.YtklcphbgaeiegaaGreatDoorVq6
import Derived.Test.YtklcphbgaeiegaaGreatDoorVq7
import Derived.Test.YtklcphbgaeiegaaGreatDoorVq8
import Derived.Test.YtklcphbgaeiegaaGreatDoorVq9
import Derived.Shelf.SlSortCmp.WholeK
import Derived.Shelf.SlLaysF0
import Derived.Ground.SlsfProg
import Derived.Test.YtklcphbgaeiegaaGreatDoorProg
import Derived.Shelf.SlSortCmp.NoneTotal
import Derived.Shelf.Small.Strs
import Derived.Deep.Strs
import Derived.Lib.SmallJoins
set_option linter.unusedSimpArgs false
set_option linter.unusedVariables false
/-
  DERIVED. The library's contracts, laid at this program: tables of numbers. Printed by the kit's tools (lay.py).
-/
namespace Go.Proofs
open Go.Shelf
def Tryz.lSlF06_121_ren : Go.Shelf.Ren := ⟨fun | 6 => 121 | 15 => 125 | 14 => 156 | 28 => 165 | 29 => 166 | 20 => 184 | 21 => 185 | 22 => 186 | 23 => 187 | 24 => 188 | 25 => 189 | 26 => 190 | 27 => 191 | 46 => 210 | 47 => 193 | 48 => 194 | 49 => 211 | 50 => 212 | 57 => 225 | n => n, fun | 22 => 59 | 24 => 54 | 25 => 139 | 3 => 3 | 39 => 143 | 0 => 0 | 53 => 172 | 55 => 174 | 4 => 4 | 46 => 166 | 45 => 165 | 50 => 109 | 5 => 5 | 9 => 9 | 66 => 199 | 70 => 203 | 76 => 213 | 77 => 214 | n => n, fun | n => n⟩
theorem Tryz.lSlF06_121 : Go.Proofs.SlLaysF0.n6 Tryz.prog Tryz.lSlF06_121_ren := {
  mixed := by kernel_rfl
  f6 := ⟨Tryz.f121.name, by decide, Tryz.func121.trans (congrArg some (by kernel_rfl))⟩
  f14 := ⟨Tryz.f156.name, by decide, Tryz.func156.trans (congrArg some (by kernel_rfl))⟩
  f15 := Tryz.func125.trans (congrArg some (by kernel_rfl))
  f20 := ⟨Tryz.f184.name, by decide, Tryz.func184.trans (congrArg some (by kernel_rfl))⟩
  f21 := ⟨Tryz.f185.name, by decide, Tryz.func185.trans (congrArg some (by kernel_rfl))⟩
  f22 := ⟨Tryz.f186.name, by decide, Tryz.func186.trans (congrArg some (by kernel_rfl))⟩
  f23 := ⟨Tryz.f187.name, by decide, Tryz.func187.trans (congrArg some (by kernel_rfl))⟩
  f24 := ⟨Tryz.f188.name, by decide, Tryz.func188.trans (congrArg some (by kernel_rfl))⟩
  f25 := ⟨Tryz.f189.name, by decide, Tryz.func189.trans (congrArg some (by kernel_rfl))⟩
  f26 := ⟨Tryz.f190.name, by decide, Tryz.func190.trans (congrArg some (by kernel_rfl))⟩
  f27 := ⟨Tryz.f191.name, by decide, Tryz.func191.trans (congrArg some (by kernel_rfl))⟩
  f28 := Tryz.func165.trans (congrArg some (by kernel_rfl))
  f29 := Tryz.func166.trans (congrArg some (by kernel_rfl))
  f46 := ⟨Tryz.f210.name, by decide, Tryz.func210.trans (congrArg some (by kernel_rfl))⟩
  f47 := Tryz.func193.trans (congrArg some (by kernel_rfl))
  f48 := Tryz.func194.trans (congrArg some (by kernel_rfl))
  f49 := ⟨Tryz.f211.name, by decide, Tryz.func211.trans (congrArg some (by kernel_rfl))⟩
  f50 := ⟨Tryz.f212.name, by decide, Tryz.func212.trans (congrArg some (by kernel_rfl))⟩
  f57 := ⟨Tryz.f225.name, by decide, Tryz.func225.trans (congrArg some (by kernel_rfl))⟩
  t0 := Tryz.underlying0
  a0 := Tryz.isAgg0
  z0 := Tryz.sizeOf0
  v0 := Tryz.zeroValue0
  t3 := Tryz.underlying3
  a3 := Tryz.isAgg3
  z3 := Tryz.sizeOf3
  v3 := Tryz.zeroValue3
  t4 := Tryz.underlying4
  a4 := Tryz.isAgg4
  z4 := Tryz.sizeOf4
  v4 := Tryz.zeroValue4
  t5 := Tryz.underlying5
  a5 := Tryz.isAgg5
  z5 := Tryz.sizeOf5
  v5 := Tryz.zeroValue5
  t9 := Tryz.underlying9
  a9 := Tryz.isAgg9
  z9 := Tryz.sizeOf9
  v9 := Tryz.zeroValue9
  t22 := Tryz.underlying59
  a22 := Tryz.isAgg59
  z22 := Tryz.sizeOf59
  v22 := Tryz.zeroValue59
  t25 := Tryz.underlying139
  a25 := Tryz.isAgg139
  z25 := Tryz.sizeOf139
  v25 := Tryz.zeroValue139
  t39 := Tryz.underlying143
  a39 := Tryz.isAgg143
  z39 := Tryz.sizeOf143
  v39 := Tryz.zeroValue143
  t45 := Tryz.underlying165
  a45 := Tryz.isAgg165
  z45 := Tryz.sizeOf165
  v45 := Tryz.zeroValue165
  t46 := Tryz.underlying166
  a46 := Tryz.isAgg166
  z46 := Tryz.sizeOf166
  v46 := Tryz.zeroValue166
  t50 := Tryz.underlying109
  a50 := Tryz.isAgg109
  z50 := Tryz.sizeOf109
  v50 := Tryz.zeroValue109
  t53 := Tryz.underlying172
  a53 := Tryz.isAgg172
  z53 := Tryz.sizeOf172
  v53 := Tryz.zeroValue172
  t55 := Tryz.underlying174
  a55 := Tryz.isAgg174
  z55 := Tryz.sizeOf174
  v55 := Tryz.zeroValue174
  t66 := Tryz.underlying199
  a66 := Tryz.isAgg199
  z66 := Tryz.sizeOf199
  v66 := Tryz.zeroValue199
  t70 := Tryz.underlying203
  a70 := Tryz.isAgg203
  z70 := Tryz.sizeOf203
  v70 := Tryz.zeroValue203
  t76 := Tryz.underlying213
  a76 := Tryz.isAgg213
  z76 := Tryz.sizeOf213
  v76 := Tryz.zeroValue213
  t77 := Tryz.underlying214
  a77 := Tryz.isAgg214
  z77 := Tryz.sizeOf214
  v77 := Tryz.zeroValue214 }
def Tryz.lSlF06_60_ren : Go.Shelf.Ren := ⟨fun | 6 => 60 | 15 => 125 | 14 => 124 | 28 => 165 | 29 => 166 | 20 => 157 | 21 => 158 | 22 => 159 | 23 => 160 | 24 => 161 | 25 => 162 | 26 => 163 | 27 => 164 | 46 => 192 | 47 => 193 | 48 => 194 | 49 => 195 | 50 => 196 | 57 => 213 | n => n, fun | 22 => 32 | 24 => 35 | 25 => 93 | 3 => 3 | 39 => 143 | 0 => 0 | 53 => 172 | 55 => 174 | 4 => 4 | 46 => 166 | 45 => 165 | 50 => 109 | 5 => 5 | 9 => 9 | 66 => 199 | 70 => 203 | 76 => 213 | 77 => 214 | n => n, fun | n => n⟩
theorem Tryz.lSlF06_60 : Go.Proofs.SlLaysF0.n6 Tryz.prog Tryz.lSlF06_60_ren := {
  mixed := by kernel_rfl
  f6 := ⟨Tryz.f60.name, by decide, Tryz.func60.trans (congrArg some (by kernel_rfl))⟩
  f14 := ⟨Tryz.f124.name, by decide, Tryz.func124.trans (congrArg some (by kernel_rfl))⟩
  f15 := Tryz.func125.trans (congrArg some (by kernel_rfl))
  f20 := ⟨Tryz.f157.name, by decide, Tryz.func157.trans (congrArg some (by kernel_rfl))⟩
  f21 := ⟨Tryz.f158.name, by decide, Tryz.func158.trans (congrArg some (by kernel_rfl))⟩
  f22 := ⟨Tryz.f159.name, by decide, Tryz.func159.trans (congrArg some (by kernel_rfl))⟩
  f23 := ⟨Tryz.f160.name, by decide, Tryz.func160.trans (congrArg some (by kernel_rfl))⟩
  f24 := ⟨Tryz.f161.name, by decide, Tryz.func161.trans (congrArg some (by kernel_rfl))⟩
  f25 := ⟨Tryz.f162.name, by decide, Tryz.func162.trans (congrArg some (by kernel_rfl))⟩
  f26 := ⟨Tryz.f163.name, by decide, Tryz.func163.trans (congrArg some (by kernel_rfl))⟩
  f27 := ⟨Tryz.f164.name, by decide, Tryz.func164.trans (congrArg some (by kernel_rfl))⟩
  f28 := Tryz.func165.trans (congrArg some (by kernel_rfl))
  f29 := Tryz.func166.trans (congrArg some (by kernel_rfl))
  f46 := ⟨Tryz.f192.name, by decide, Tryz.func192.trans (congrArg some (by kernel_rfl))⟩
  f47 := Tryz.func193.trans (congrArg some (by kernel_rfl))
  f48 := Tryz.func194.trans (congrArg some (by kernel_rfl))
  f49 := ⟨Tryz.f195.name, by decide, Tryz.func195.trans (congrArg some (by kernel_rfl))⟩
  f50 := ⟨Tryz.f196.name, by decide, Tryz.func196.trans (congrArg some (by kernel_rfl))⟩
  f57 := ⟨Tryz.f213.name, by decide, Tryz.func213.trans (congrArg some (by kernel_rfl))⟩
  t0 := Tryz.underlying0
  a0 := Tryz.isAgg0
  z0 := Tryz.sizeOf0
  v0 := Tryz.zeroValue0
  t3 := Tryz.underlying3
  a3 := Tryz.isAgg3
  z3 := Tryz.sizeOf3
  v3 := Tryz.zeroValue3
  t4 := Tryz.underlying4
  a4 := Tryz.isAgg4
  z4 := Tryz.sizeOf4
  v4 := Tryz.zeroValue4
  t5 := Tryz.underlying5
  a5 := Tryz.isAgg5
  z5 := Tryz.sizeOf5
  v5 := Tryz.zeroValue5
  t9 := Tryz.underlying9
  a9 := Tryz.isAgg9
  z9 := Tryz.sizeOf9
  v9 := Tryz.zeroValue9
  t22 := Tryz.underlying32
  a22 := Tryz.isAgg32
  z22 := Tryz.sizeOf32
  v22 := Tryz.zeroValue32
  t25 := Tryz.underlying93
  a25 := Tryz.isAgg93
  z25 := Tryz.sizeOf93
  v25 := Tryz.zeroValue93
  t39 := Tryz.underlying143
  a39 := Tryz.isAgg143
  z39 := Tryz.sizeOf143
  v39 := Tryz.zeroValue143
  t45 := Tryz.underlying165
  a45 := Tryz.isAgg165
  z45 := Tryz.sizeOf165
  v45 := Tryz.zeroValue165
  t46 := Tryz.underlying166
  a46 := Tryz.isAgg166
  z46 := Tryz.sizeOf166
  v46 := Tryz.zeroValue166
  t50 := Tryz.underlying109
  a50 := Tryz.isAgg109
  z50 := Tryz.sizeOf109
  v50 := Tryz.zeroValue109
  t53 := Tryz.underlying172
  a53 := Tryz.isAgg172
  z53 := Tryz.sizeOf172
  v53 := Tryz.zeroValue172
  t55 := Tryz.underlying174
  a55 := Tryz.isAgg174
  z55 := Tryz.sizeOf174
  v55 := Tryz.zeroValue174
  t66 := Tryz.underlying199
  a66 := Tryz.isAgg199
  z66 := Tryz.sizeOf199
  v66 := Tryz.zeroValue199
  t70 := Tryz.underlying203
  a70 := Tryz.isAgg203
  z70 := Tryz.sizeOf203
  v70 := Tryz.zeroValue203
  t76 := Tryz.underlying213
  a76 := Tryz.isAgg213
  z76 := Tryz.sizeOf213
  v76 := Tryz.zeroValue213
  t77 := Tryz.underlying214
  a77 := Tryz.isAgg214
  z77 := Tryz.sizeOf214
  v77 := Tryz.zeroValue214 }
end Go.Proofs

/-
  DERIVED. The library's sort of structs, as a contract of a list that is lent.
-/
namespace Go.Vc
open Go.Pl
set_option linter.unusedVariables false

theorem vrows_map {α : Type} (enc : α → List Value) (en : α → List SV) (h : ∀ x, (enc x).map SV.v = en x) (L : List α) : vrows (L.map enc) = L.map en := by
  unfold vrows
  rw [List.map_map]
  exact List.map_congr_left fun x _ => h x

theorem sortK_holdsL {P : Program} {ρ : Go.Shelf.Ren} (L : Go.Proofs.SlLaysF0.n6 P ρ) {α : Type} [Inhabited α] (k : Nat) (hk0 : 0 < k) (aE : ∀ w, (isAgg (ρ.t 24)).run P w = .ok true w) (zE : ∀ w, (Go.sizeOf (ρ.t 24)).run P w = .ok k w)
    (enc : α → List Value) (hk : ∀ x, (enc x).length = k) (h1 : ∀ x, ∀ v ∈ enc x, v.oneCell' = true) (cf : α → α → Int) (hO : Go.Sort.SWO (Go.Proofs.ltOf cf)) (g : Nat) (eg : ∀ args w, (callFunc g args).run P w = .ok (.enter g args) w)
    (hcmp : ∀ blk off size w, Go.Proofs.CmpLays P g #[] enc k cf blk off size w) (lt : α → α → Bool) (hlt : ∀ x y, Go.Proofs.ltOf cf x y = lt x y) (hS : Strict lt) (e : Nat) (M : List α) (hM : M.length ≤ 1099511627776)
    (hp : M.Pairwise fun a b => lt a b = true ∨ lt b a = true) :
    HoldsL P (ρ.f 6) (.own 1000000 :: [.fn g []]) [(1000000, .sl e k (vrows (M.map enc)))] (.tup []) [] [(1000000, .sl e k (vrows ((insAll lt M).map enc)))] := by
  have fnv : ∀ {w : World} {us : List Value}, us.length = [SV.fn g []].length → (∀ (i : Nat) (c : SV) (u : Value), [SV.fn g []][i]? = some c → us[i]? = some u → R w (fun _ => False) (fun _ => .slice none 0 0) c u) → us = [.func (.func g) #[] #[]] := fun {w us} hl ha => by
    match us, hl with
    | [u], _ =>
      obtain ⟨cs, rfl, hcl, _⟩ := (ha 0 _ u rfl rfl).fn_inv
      have : cs = [] := List.eq_nil_of_length_eq_zero (by simpa using hcl.symm)
      subst this; rfl
  refine HoldsL.cells (fun r hr => by obtain ⟨x, _, rfl⟩ := List.mem_map.1 hr; exact hk x) (by simp [insAll_len]) (fun r hr => by obtain ⟨x, _, rfl⟩ := List.mem_map.1 hr; exact hk x)
    (fun r hr u hu => by obtain ⟨x, _, rfl⟩ := List.mem_map.1 hr; exact h1 x u hu) (fun hn w us hl ha => ?_) (fun c hc => by simp only [List.mem_cons, List.not_mem_nil, or_false] at hc; exact .inl ⟨g, hc⟩) (fun w b cap cur us hG hh hrc hcm hsz hcell hl ha => ?_)
  · rw [fnv hl ha]
    exact (Go.Proofs.AnyF.slices_SortFunc_none L none 0 _ w).mono fun en w' ⟨he, hw⟩ => ⟨he, by rw [hw]; exact Go.RowKit.Below.refl _ _⟩
  · rw [fnv hl ha, List.length_map]
    have hd : M.toArray.size = M.length := by simp
    have hH : Go.Sort.HoldsK enc k w b 0 M.toArray := holds_cells (enc := id) hh (fun j hj => by
      rw [Go.Sort.size_flatK, hd] at hj
      rw [Go.Sort.get_flatK enc k _ j (by rw [hd]; exact hj)]
      have hq : j / k < M.length := Nat.div_lt_of_lt_mul (by rw [Nat.mul_comm]; exact hj)
      have hr : j % k < k := Nat.mod_lt _ hk0
      have hrow : (M.map enc)[j / k]? = some (enc M[j / k]) := by rw [List.getElem?_map, List.getElem?_eq_getElem hq]; rfl
      have hu : (enc M[j / k])[j % k]? = some ((enc M[j / k])[j % k]'(by rw [hk]; exact hr)) := List.getElem?_eq_getElem _
      have h2 := (hcell (j / k) (j % k) _ _ hrow hu).1
      have e1 : j / k * k + j % k = j := by rw [Nat.mul_comm]; exact Nat.div_add_mod j k
      rw [e1] at h2
      have e2 : M.toArray[j / k]! = M[j / k] := by rw [getElem!_pos _ _ (by simpa using hq)]; simp
      rw [h2, e2, getElem!_pos _ _ (by rw [hk]; exact hr)]; rfl)
    have hs := Go.Proofs.AnyQ.slices_SortFunc L k aE zE enc hk h1 cf hO g #[] b 0 cap M.toArray w eg (hcmp _ _ _ _) hH (lt_of_heap hh) (by rw [hd]; omega)
    rw [hd] at hs
    refine hs.mono fun en w' ⟨he, d', n, os, hpm, hst, hw⟩ => ⟨he, ?_⟩
    have hsize : d'.size = M.length := by rw [hpm.1, hd]
    have hperm : d'.toList.Perm M := by
      have := hpm.2.2
      have e1 : d'.extract 0 M.length = d' := Array.extract_eq_self_of_le (by omega)
      have e2 : M.toArray.extract 0 M.length = M.toArray := Array.extract_eq_self_of_le (by rw [hd]; exact Nat.le_refl _)
      rw [e1, e2] at this
      simpa using this
    have hsorted : d'.toList.Pairwise fun a b => lt b a = false := by
      rw [List.pairwise_iff_getElem]
      intro i j hi hj hij
      have h3 := hst i j (Nat.zero_le _) hij (by simpa [hsize] using hj)
      rw [hlt] at h3
      have hi' : i < d'.size := by simpa using hi
      have hj' : j < d'.size := by simpa using hj
      rw [getElem!_pos d' i hi', getElem!_pos d' j hj'] at h3
      simpa using h3
    have hins := insAll_unique hS hp hperm hsorted
    have hfl : (Go.Sort.flatK enc k d').size ≤ cur.size := by
      rw [Go.Sort.size_flatK, hsize, hsz]
      exact Nat.mul_le_mul_right k (by simpa using hrc)
    obtain ⟨hU, hnew⟩ := upd_putRow (id : Value → Value) n (Go.Sort.flatK enc k d') os hh hfl
    refine ⟨_, by rw [hw]; exact hU, fun i c r u hr hu => ?_⟩
    rw [← hins, List.getElem?_map] at hr
    have hil : i < d'.size := by
      by_cases h : i < d'.toList.length
      · simpa using h
      · rw [List.getElem?_eq_none (by omega)] at hr; cases hr
    rw [Array.getElem?_toList, Array.getElem?_eq_getElem hil] at hr
    simp only [Option.map_some, Option.some.injEq] at hr
    subst hr
    have hc : c < k := by rw [← hk d'[i]]; exact (List.getElem?_eq_some_iff.1 hu).1
    have hlt' : i * k + c < d'.size * k := by
      have := Nat.mul_le_mul_right k (show i + 1 ≤ d'.size from hil)
      rw [Nat.add_mul, Nat.one_mul] at this; omega
    have e1 : (i * k + c) / k = i := by rw [Nat.mul_comm, Nat.mul_add_div hk0, Nat.div_eq_of_lt hc]; rfl
    have e2 : (i * k + c) % k = c := by rw [Nat.mul_comm, Nat.mul_add_mod, Nat.mod_eq_of_lt hc]
    rw [hnew _ (by rw [Go.Sort.size_flatK]; exact hlt'), Go.Sort.get_flatK enc k d' _ hlt', e1, e2, getElem!_pos d' i hil]
    obtain ⟨hcl, hcv⟩ := List.getElem?_eq_some_iff.1 hu
    rw [getElem!_pos (enc d'[i]) c hcl, hcv]; rfl
end Go.Vc

/-
  DERIVED. The library's sort of entries, as the program calls it.
-/
namespace Go.Proofs.YtklcphbgaeiegaaGreatDoor
open Go.Vc Go.Pl Go.Shelf Go.RowKit Go.Lib Go.Sort
set_option linter.unusedVariables false
theorem cmp_less : ∀ a b : List UInt8, decide (compareBytes a b < 0) = Op.bytesLess a b
  | [], [] => rfl
  | [], _ :: _ => rfl
  | _ :: _, [] => rfl
  | a :: l, b :: m => by
    have ih := cmp_less l m
    unfold compareBytes Op.bytesLess
    by_cases h : a < b
    · simp [h]
    · by_cases h2 : b < a
      · have : ¬ a = b := fun e => by subst e; exact h h2
        simp [h, h2, this]
      · have : a = b := by
          have h3 : ¬ a.toNat < b.toNat := fun hh => h (UInt8.lt_iff_toNat_lt.2 hh)
          have h4 : ¬ b.toNat < a.toNat := fun hh => h2 (UInt8.lt_iff_toNat_lt.2 hh)
          exact UInt8.toNat_inj.1 (by omega)
        simp [h, h2, this, ih]
theorem toList_data (a : ByteArray) : a.data.toList = a.toList := by rw [ByteArray.toList_eq]
def cfE (x y : Entry) : Int := compareBytes x.stack.data.toList y.stack.data.toList
theorem ltE_cf (x y : Entry) : ltOf cfE x y = ltE x y := by
  unfold ltOf cfE ltE ltS
  rw [cmp_less, toList_data, toList_data]
theorem swoE : SWO (ltOf cfE) := ⟨fun x => by rw [ltE_cf]; exact ltS_irrefl _, fun x y z h1 h2 => by rw [ltE_cf] at h1 h2 ⊢; exact ltS_trans h1 h2, fun x y z h1 h2 => by rw [ltE_cf] at h1 h2 ⊢; exact ltS_ntrans h1 h2⟩
def vEntry (x : Entry) : List Value := [.string x.stack, .int .i64 x.count]
set_option maxHeartbeats 1000000 in
theorem closureE (x y : Entry) (W : World) : Calls Tryz.prog 122 #[.agg #[.string x.stack, .int .i64 x.count], .agg #[.string y.stack, .int .i64 y.count]] W fun e w' => e = .returned (.int .i64 (cfE x y)) ∧ ∃ q os', w' = grow (W.drewN q) os' := by
  unfold cfE
  have hcon := fun W' => Any.strings_Compare Tryz.l106 x.stack y.stack W'
  change ∀ W', Calls Tryz.prog 62 _ _ _ at hcon
  generalize Lib.compareBytes x.stack.data.toList y.stack.data.toList = r at hcon ⊢
  go_enter Tryz.func122, Tryz.ntmps122
  go_wp2_with (go_at_call 62; refine (hcon _).mono ?_; rintro e w' ⟨rfl, rfl⟩)
  go_ret
  exact ⟨rfl, 0, _, by rw [alloc_eq_grow, alloc_eq_grow, grow_grow]; rfl⟩
instance : Inhabited Entry := ⟨⟨⟨#[]⟩, 0⟩⟩
def kSortE : Ctr := len [0] [] (fun args obs => decEntry (oR obs 1000000)) (fun x => [.own 1000000, .fn 122 []]) (fun x => [(1000000, .sl 54 2 (x.map encEntry))])
  (fun x => x.length ≤ 1099511627776 ∧ x.Pairwise fun a b => ltE a b = true ∨ ltE b a = true) (fun _ x => .tup []) (fun _ _ => []) (fun x => [(1000000, .sl 54 2 ((insAll ltE x).map encEntry))])
theorem cSortE : Cn Tryz.prog 121 kSortE := by
  refine Cn.len Tryz.func121 (by kernel_rfl) rfl fun d x hd hx => ?_
  have eg : ∀ args w, (callFunc 122 args).run Tryz.prog w = .ok (.enter 122 args) w := enters_of Tryz.func122 (by kernel_rfl) rfl
  have h := sortK_holdsL Tryz.lSlF06_121 2 (by omega) Tryz.isAgg54 Tryz.sizeOf54 vEntry (fun _ => rfl) (fun x v hv => by simp [vEntry] at hv; rcases hv with rfl | rfl <;> rfl) cfE swoE 122 eg
    (fun blk off size w _ _ _ _ x y => closureE x y _) ltE ltE_cf ltE_strict 54 x hx.1 hx.2
  rw [vrows_map vEntry encEntry (fun _ => rfl), vrows_map vEntry encEntry (fun _ => rfl)] at h
  exact h
end Go.Proofs.YtklcphbgaeiegaaGreatDoor

namespace Go.Proofs.YtklcphbgaeiegaaGreatDoor
open Go.Vc
attribute [local go_sem] St.runR St.runW St.stepV offV St.step St.stepU St.stepG mkCond guardB St.prK St.pr St.prLen St.eff St.callE St.callD St.callF St.callL aI aB aS aR aC St.isM St.argL Ctr.pure Ctr.lend Ctr.move Ctr.isL Ctr.wri pur len lentBy St.lentV St.lent1 nthS argsR restOf obsR pairs swapL unObs backL St.resL erL SV.ren1 SV.up SV.up2 Ob.up St.fzL cellIds partIds St.intoRow SV.ownId St.fz SV.fz1 St.prep St.mvL St.mv SV.re1 rnOk St.prEq vals eqCells scEq Value.kd St.prStr St.prCut cutR St.bnd St.prMin St.bld isShift outL retL outJ oR oC St.ev St.get St.put St.new St.kill SV.kill SV.kill1 Ob.kill St.app St.wrt St.rowsOf St.res St.killL lk er argsL SV.strip SV.need SV.share SV.share1 SV.owns SV.owns1 SV.owns2 SV.good SV.good1 SV.rok SV.rok1 SV.rok2 SV.isV SV.isV2 nodupN SV.cells SV.one SV.pur Ob.pb partsIn rowsIn splice cellsAt dstOk scal2 scal1 thenK blockK retK outK outs okC okL okA okT nilC nilL nilA nilT keepC keepL keepA keepT St.runG St.dltK St.least St.clean St.final St.hide offK badS badO SV.refs SV.leaf SV.leaf2 Ob.refs dlOk fpAt Go.Vc.cover tups SV.ofAgg St.out outC subL St.has rng wr Value.oneCell' Option.isSome_some Option.isSome_none List.nil_append Bool.false_eq_true List.map_cons List.map_nil List.all_cons List.all_nil List.length_cons List.length_nil List.drop_zero List.drop_succ_cons List.take_succ_cons List.take_zero List.drop_nil List.take_nil List.getElem?_cons_zero List.getElem?_cons_succ List.getElem?_nil List.cons_append List.nil_append List.append_nil List.append_assoc List.flatMap_cons List.flatMap_nil List.contains_cons List.contains_nil List.set_cons_zero List.set_cons_succ List.getElem?_toArray Option.getD_some Option.getD_none Option.map_some Option.map_none Option.bind_some Option.some.injEq Prod.mk.injEq if_true if_false true_and and_true and_self and_false false_and Bool.and_false Bool.false_and Bool.or_true Bool.true_or Bool.or_false Bool.false_or ne_eq not_true_eq_false not_false_eq_true decide_true decide_false List.mem_cons List.not_mem_nil List.filter_cons List.filter_nil List.any_cons List.any_nil List.isEmpty_nil List.isEmpty_cons Option.getD_none or_false false_or true_or or_true forall_eq_or_imp forall_eq reduceCtorEq exists_eq exists_eq' exists_eq_left' exists_eq_left exists_eq_right exists_eq_right' imp_self implies_true Bool.and_true Bool.true_and Bool.and_self beq_self_eq_true List.replicate_succ List.replicate_zero forall_const false_implies pickB_or pickB_and beqT beqF Int.toNat_natCast List.length_map List.length_replicate ge_iff_le gt_iff_lt decide_eq_true_eq decide_eq_false_iff_not Bool.and_eq_true Bool.or_eq_true Bool.not_eq_true' Bool.not_eq_false' condG List.toList_toArray Bool.or_eq_false_iff Bool.and_eq_false_iff Int.not_lt Int.not_le beq_iff_eq beq_eq_false_iff_ne bne_iff_ne bne_eq_false_iff_eq ne_eq Bool.not_true Bool.not_false exists_and_left
section
open Go.Vc
set_option linter.unusedSimpArgs false
set_option linter.unusedVariables false
set_option maxHeartbeats 1000000
set_option maxRecDepth 10000
attribute [local irreducible] Go.Vc.WP
attribute [local go_sem] cx0_t cx0_c
open Go.Pl
attribute [local go_sem] isV_Node isV_It isV_Entry decNode_enc decFrame_enc oneFrame_enc stkA oneFrame_ab oneNode_abc decI_enc decS_enc aU prA decEntry_enc St.ado St.adoptB St.adoptS rp isNil St.fzS
theorem rawE_skip {N : List Node} {C : List Int} {k : Nat} (hk : k < C.length) (h : C[k] = 0) : rawE N C (k + 1) = rawE N C k := by
  rw [rawE_succ, show entAt N C k = none from if_pos (by rw [List.getD_eq_getElem?_getD, List.getElem?_eq_getElem hk]; exact h)]
  simp
theorem rawE_new {N : List Node} {C : List Int} {k : Nat} (hk : k < C.length) (h : ¬ C[k] = 0) : rawE N C (k + 1) = rawE N C k ++ [⟨fmtF (stackAt N k), C[k]⟩] := by
  have e : C.getD k 0 = C[k] := by rw [List.getD_eq_getElem?_getD, List.getElem?_eq_getElem hk]; rfl
  rw [rawE_succ, show entAt N C k = some ⟨fmtF (stackAt N k), C[k]⟩ by unfold entAt; rw [e, if_neg h]]
  rfl
section
noncomputable def cxEoI : Cx := { P := Tryz.prog, tys := tys, C := [(56, kPrOk), (120, kStackAt), (119, kFmtF), (121, kSortE)], hty := tysOk, hC := COk.cons cPrOkI (COk.cons cStackAtI (COk.cons cFmtFI (COk.cons cSortE (COk.nil _)))) }
theorem cxEoI_t : cxEoI.tys = tys := rfl
theorem cxEoI_c : cxEoI.C = [(56, kPrOk), (120, kStackAt), (119, kFmtF), (121, kSortE)] := rfl
attribute [local go_sem] cxEoI_t cxEoI_c kPrOk kStackAt kFmtF kSortE
theorem cEntI : Cn Tryz.prog 57 kEnt := by
  refine Cn.pur Tryz.func57 (by kernel_rfl) rfl fun d x hx => ?_
  obtain ⟨N, C⟩ := x
  obtain ⟨⟨hN, hs⟩, hC⟩ := hx
  simp only at hN hs hC ⊢
  refine Holds.go (c := cxEoI) Tryz.func57 rfl Tryz.results57 Tryz.ntmps57 (by omega) (by simp) rfl ?_
  intro X0 w0
  (repeat' (first | refine WP.seq ?_ | refine WP.block ?_ | ((first | refine WP.region ?_ | refine WP.condW ?_ | refine WP.ret ?_ | refine WP.exit ?_ | refine WP.skip ?_); simp only [go_sem, tyAll, Nat.reduceAdd, Nat.reduceLT, Nat.reduceLeDiff, Nat.reduceEqDiff, Nat.reduceMul, Nat.reduceSub, Nat.reduceGT, reduceIte, Int.reduceNeg, Int.reduceToNat]) |  refine And.intro ?_ ?_ | intro _))
  all_goals first | omega | (simp only; omega) | exact Nat.le_trans (hs _ ‹_›) (by omega) | skip
  · rename_i h; rw [show entriesOf N C = [] from if_neg (by rw [h]; simp)]; exact ⟨_, _, rfl⟩
  rename_i hp
  have he : entriesOf N C = insAll ltE (rawE N C C.length) := if_pos hp
  refine WP.loop (fun k : Nat => ⟨[(1, .ptr 1 0 0 0), (3, .own 9), (11, .sl 1 (C.map encI)), (12, .v (.int .i64 C.length)), (13, .v (.int .i64 k))], [(1, .box 29 [.sl 3 (N.map encNode), .sl 1 (C.map encI)]), (9, .sl 54 2 ((rawE N C k).map encEntry))]⟩)
    (fun k => k ≤ C.length) (fun k => C.length - k) 0 (by simp) ?_ ?_
  · (simp only [go_sem, tyAll, Nat.reduceAdd, Nat.reduceLT, Nat.reduceLeDiff, Nat.reduceEqDiff, Nat.reduceMul, Nat.reduceSub, Nat.reduceGT, reduceIte, Int.reduceNeg, Int.reduceToNat] <;> (first | rfl | exact ⟨rfl, rfl⟩ | exact ⟨rfl, rfl, rfl⟩ | exact ⟨rfl, rfl, rfl, rfl⟩ | exact ⟨rfl, rfl, rfl, rfl, rfl⟩ | exact ⟨⟨rfl, rfl⟩, rfl⟩ | simp))
  intro k hk
  have hlen := rawE_len N C k
  by_cases hlt : k < C.length
  · have hli : (k : Int) < C.length := by omega
    have h1 := rowAt_map encI C k hlt
    have h3 := cntOk_at (profileOk_iff.1 hp).2.2 k hlt
    by_cases hz : C[k] = 0
    · have hsk := rawE_skip (N := N) hlt hz
      have hz0 : ¬ 0 < C[k] := by omega
      (repeat' (first | refine WP.seq ?_ | refine WP.block ?_ | ((first | refine WP.region ?_ | refine WP.condW ?_ | refine WP.ret ?_ | refine WP.exit ?_ | refine WP.skip ?_); simp only [go_sem, hli, h1, encI, hz0, tyAll, Nat.reduceAdd, Nat.reduceLT, Nat.reduceLeDiff, Nat.reduceEqDiff, Nat.reduceMul, Nat.reduceSub, Nat.reduceGT, reduceIte, Int.reduceNeg, Int.reduceToNat]) |  refine And.intro ?_ ?_ | intro _))
      all_goals first | omega | skip
      exact ⟨k + 1, by omega, by omega, rfl, by rw [hsk]⟩
    · have hnw := rawE_new (N := N) hlt hz
      have hfr := wfFr_at N k
      have hsl := stackAt_len N k
      have hz0 : 0 < C[k] := by omega
      (repeat' (first | refine WP.seq ?_ | refine WP.block ?_ | ((first | refine WP.region ?_ | refine WP.condW ?_ | refine WP.ret ?_ | refine WP.exit ?_ | refine WP.skip ?_); simp only [go_sem, hli, h1, encI, hz0, tyAll, Nat.reduceAdd, Nat.reduceLT, Nat.reduceLeDiff, Nat.reduceEqDiff, Nat.reduceMul, Nat.reduceSub, Nat.reduceGT, reduceIte, Int.reduceNeg, Int.reduceToNat]) |  refine And.intro ?_ ?_ | intro _))
      all_goals first | omega | (simp only; omega) | exact Nat.le_trans (hs _ ‹_›) (by omega) | exact hfr _ ‹_› | exact ⟨_, _, _, rfl⟩ | skip
      exact ⟨k + 1, by omega, by omega, rfl, by rw [hnw, List.map_append]; rfl⟩
  · have hge : ¬ (k : Int) < C.length := by omega
    have hpr := rawE_pair (profileOk_iff.1 hp).1 C C.length (by have := (profileOk_iff.1 hp).2.1; omega)
    rw [show k = C.length by omega] at hge ⊢
    have hll := rawE_len N C C.length
    (repeat' (first | refine WP.seq ?_ | refine WP.block ?_ | ((first | refine WP.region ?_ | refine WP.condW ?_ | refine WP.ret ?_ | refine WP.exit ?_ | refine WP.skip ?_); simp only [go_sem, hge, tyAll, Nat.reduceAdd, Nat.reduceLT, Nat.reduceLeDiff, Nat.reduceEqDiff, Nat.reduceMul, Nat.reduceSub, Nat.reduceGT, reduceIte, Int.reduceNeg, Int.reduceToNat]) |  refine And.intro ?_ ?_ | intro _))
    all_goals first | omega | skip
    rw [he]
end
end
section
open Go.Vc
set_option linter.unusedSimpArgs false
set_option linter.unusedVariables false
set_option maxHeartbeats 1000000
set_option maxRecDepth 10000
attribute [local irreducible] Go.Vc.WP
attribute [local go_sem] cx0_t cx0_c
attribute [local go_sem] isV_Node isV_It isV_Entry decNode_enc decFrame_enc oneFrame_enc stkA oneFrame_ab oneNode_abc decI_enc decS_enc aU prA decEntry_enc St.fzS addL behind
theorem cEntZIy : Cn Tryz.prog 57 kEntZ := Cn.frozen (fun s => allV_Entry _) cEntI
section
noncomputable def cxEqE : Cx := { P := Tryz.prog, tys := tys, C := [], hty := tysOk, hC := COk.nil _ }
theorem cxEqE_t : cxEqE.tys = tys := rfl
theorem cxEqE_c : cxEqE.C = [] := rfl
attribute [local go_sem] cxEqE_t cxEqE_c 
theorem cEqE : Cn Tryz.prog 80 kSameE := by
  refine Cn.pur Tryz.func80 (by kernel_rfl) rfl fun d x hx => ?_
  obtain ⟨L, M⟩ := x
  simp only at hx ⊢
  refine Holds.go (c := cxEqE) Tryz.func80 rfl Tryz.results80 Tryz.ntmps80 (by omega) (by simp) rfl ?_
  intro X0 w0
  by_cases hlen : L.length = M.length
  · have hle : (L.length : Int) = M.length := by omega
    (repeat' (first | refine WP.seq ?_ | refine WP.block ?_ | ((first | refine WP.region ?_ | refine WP.condW ?_ | refine WP.ret ?_ | refine WP.exit ?_ | refine WP.skip ?_); simp only [go_sem, hle, tyAll, Nat.reduceAdd, Nat.reduceLT, Nat.reduceLeDiff, Nat.reduceEqDiff, Nat.reduceMul, Nat.reduceSub, Nat.reduceGT, reduceIte, Int.reduceNeg, Int.reduceToNat]) | ((first | refine WP.drawW 9 (by decide +kernel) (by kernel_rfl) ?_); simp only [go_sem, hle, tyAll, Nat.reduceAdd, Nat.reduceLT, Nat.reduceLeDiff, Nat.reduceEqDiff, Nat.reduceMul, Nat.reduceSub, Nat.reduceGT, reduceIte, Int.reduceNeg, Int.reduceToNat]) |  refine And.intro ?_ ?_ | intro _))
    all_goals first | omega | skip
    refine WP.loop (fun k : Nat => ⟨[(0, .sl 2 (L.map encEntry)), (1, .sl 2 (M.map encEntry)), (12, .v (.int .i64 (L.length : Int))), (13, .v (.int .i64 k))], []⟩) (fun k => k ≤ L.length ∧ L.take k = M.take k) (fun k => L.length - k) 0 (by simp) ?_ ?_
    · (simp only [go_sem, hle, tyAll, Nat.reduceAdd, Nat.reduceLT, Nat.reduceLeDiff, Nat.reduceEqDiff, Nat.reduceMul, Nat.reduceSub, Nat.reduceGT, reduceIte, Int.reduceNeg, Int.reduceToNat] <;> (first | rfl | exact ⟨rfl, rfl⟩ | exact ⟨rfl, rfl, rfl⟩ | exact ⟨rfl, rfl, rfl, rfl⟩ | exact ⟨rfl, rfl, rfl, rfl, rfl⟩ | exact ⟨⟨rfl, rfl⟩, rfl⟩ | simp))
    intro k ⟨hk, hf⟩
    by_cases hlt : k < L.length
    · have hli : (k : Int) < L.length := by omega
      have hlm : (k : Int) < M.length := by omega
      have hltM : k < M.length := by omega
      have h1 := rowAt_map encEntry L k hlt
      have h2 := rowAt_map encEntry M k hltM
      have hnx : L[k] = M[k] → L.take (k + 1) = M.take (k + 1) := fun he => by
        rw [List.take_succ_eq_append_getElem hlt, List.take_succ_eq_append_getElem hltM, hf, he]
      have hno : ¬ L[k] = M[k] → ¬ L = M := fun hn he => hn (by subst he; rfl)
      have hex : L[k].stack = M[k].stack → L[k].count = M[k].count → L[k] = M[k] := fun e1 e2 => by
        generalize L[k] = x at *
        generalize M[k] = y at *
        obtain ⟨x1, x2⟩ := x
        obtain ⟨y1, y2⟩ := y
        simp only at e1 e2
        rw [e1, e2]
      by_cases e1 : L[k].stack = M[k].stack
      · by_cases e2 : L[k].count = M[k].count
        · have := hnx (hex e1 e2)
          (repeat' (first | refine WP.seq ?_ | refine WP.block ?_ | ((first | refine WP.region ?_ | refine WP.condW ?_ | refine WP.ret ?_ | refine WP.exit ?_ | refine WP.skip ?_); simp only [go_sem, hli, hlm, h1, h2, encEntry, e1, e2, tyAll, Nat.reduceAdd, Nat.reduceLT, Nat.reduceLeDiff, Nat.reduceEqDiff, Nat.reduceMul, Nat.reduceSub, Nat.reduceGT, reduceIte, Int.reduceNeg, Int.reduceToNat]) | ((first | refine WP.drawW 9 (by decide +kernel) (by kernel_rfl) ?_); simp only [go_sem, hli, hlm, h1, h2, encEntry, e1, e2, tyAll, Nat.reduceAdd, Nat.reduceLT, Nat.reduceLeDiff, Nat.reduceEqDiff, Nat.reduceMul, Nat.reduceSub, Nat.reduceGT, reduceIte, Int.reduceNeg, Int.reduceToNat]) |  refine And.intro ?_ ?_ | intro _))
          all_goals first | omega | exact ⟨k + 1, ⟨by omega, this⟩, by omega, by (first | rfl | exact ⟨rfl, rfl⟩ | exact ⟨rfl, rfl, rfl⟩ | exact ⟨rfl, rfl, rfl, rfl⟩ | exact ⟨rfl, rfl, rfl, rfl, rfl⟩ | exact ⟨⟨rfl, rfl⟩, rfl⟩ | simp)⟩ | skip
          all_goals trace_state
        · have hn := hno fun h => e2 (by rw [h])
          (repeat' (first | refine WP.seq ?_ | refine WP.block ?_ | ((first | refine WP.region ?_ | refine WP.condW ?_ | refine WP.ret ?_ | refine WP.exit ?_ | refine WP.skip ?_); simp only [go_sem, hli, hlm, h1, h2, encEntry, e1, e2, tyAll, Nat.reduceAdd, Nat.reduceLT, Nat.reduceLeDiff, Nat.reduceEqDiff, Nat.reduceMul, Nat.reduceSub, Nat.reduceGT, reduceIte, Int.reduceNeg, Int.reduceToNat]) | ((first | refine WP.drawW 9 (by decide +kernel) (by kernel_rfl) ?_); simp only [go_sem, hli, hlm, h1, h2, encEntry, e1, e2, tyAll, Nat.reduceAdd, Nat.reduceLT, Nat.reduceLeDiff, Nat.reduceEqDiff, Nat.reduceMul, Nat.reduceSub, Nat.reduceGT, reduceIte, Int.reduceNeg, Int.reduceToNat]) |  refine And.intro ?_ ?_ | intro _))
          all_goals first | omega | (rw [decide_eq_false hn]) | skip
          all_goals trace_state
      · have hn := hno fun h => e1 (by rw [h])
        (repeat' (first | refine WP.seq ?_ | refine WP.block ?_ | ((first | refine WP.region ?_ | refine WP.condW ?_ | refine WP.ret ?_ | refine WP.exit ?_ | refine WP.skip ?_); simp only [go_sem, hli, hlm, h1, h2, encEntry, e1, tyAll, Nat.reduceAdd, Nat.reduceLT, Nat.reduceLeDiff, Nat.reduceEqDiff, Nat.reduceMul, Nat.reduceSub, Nat.reduceGT, reduceIte, Int.reduceNeg, Int.reduceToNat]) | ((first | refine WP.drawW 9 (by decide +kernel) (by kernel_rfl) ?_); simp only [go_sem, hli, hlm, h1, h2, encEntry, e1, tyAll, Nat.reduceAdd, Nat.reduceLT, Nat.reduceLeDiff, Nat.reduceEqDiff, Nat.reduceMul, Nat.reduceSub, Nat.reduceGT, reduceIte, Int.reduceNeg, Int.reduceToNat]) |  refine And.intro ?_ ?_ | intro _))
        all_goals first | omega | (rw [decide_eq_false hn]) | skip
        all_goals trace_state
    · have hge : ¬ (k : Int) < L.length := by omega
      have hke : k = L.length := by omega
      have he : L = M := by
        rw [hke, List.take_length, hlen, List.take_length] at hf
        exact hf
      (repeat' (first | refine WP.seq ?_ | refine WP.block ?_ | ((first | refine WP.region ?_ | refine WP.condW ?_ | refine WP.ret ?_ | refine WP.exit ?_ | refine WP.skip ?_); simp only [go_sem, hge, tyAll, Nat.reduceAdd, Nat.reduceLT, Nat.reduceLeDiff, Nat.reduceEqDiff, Nat.reduceMul, Nat.reduceSub, Nat.reduceGT, reduceIte, Int.reduceNeg, Int.reduceToNat]) | ((first | refine WP.drawW 9 (by decide +kernel) (by kernel_rfl) ?_); simp only [go_sem, hge, tyAll, Nat.reduceAdd, Nat.reduceLT, Nat.reduceLeDiff, Nat.reduceEqDiff, Nat.reduceMul, Nat.reduceSub, Nat.reduceGT, reduceIte, Int.reduceNeg, Int.reduceToNat]) |  refine And.intro ?_ ?_ | intro _))
      all_goals first | omega | (rw [decide_eq_true he]) | skip
      all_goals trace_state
  · have hn : ¬ L = M := fun h => hlen (by rw [h])
    have hle : ¬ (L.length : Int) = M.length := by omega
    (repeat' (first | refine WP.seq ?_ | refine WP.block ?_ | ((first | refine WP.region ?_ | refine WP.condW ?_ | refine WP.ret ?_ | refine WP.exit ?_ | refine WP.skip ?_); simp only [go_sem, hle, tyAll, Nat.reduceAdd, Nat.reduceLT, Nat.reduceLeDiff, Nat.reduceEqDiff, Nat.reduceMul, Nat.reduceSub, Nat.reduceGT, reduceIte, Int.reduceNeg, Int.reduceToNat]) | ((first | refine WP.drawW 9 (by decide +kernel) (by kernel_rfl) ?_); simp only [go_sem, hle, tyAll, Nat.reduceAdd, Nat.reduceLT, Nat.reduceLeDiff, Nat.reduceEqDiff, Nat.reduceMul, Nat.reduceSub, Nat.reduceGT, reduceIte, Int.reduceNeg, Int.reduceToNat]) |  refine And.intro ?_ ?_ | intro _))
    all_goals first | omega | (rw [decide_eq_false hn]) | skip
    all_goals trace_state
end
section
noncomputable def cxSmPI : Cx := { P := Tryz.prog, tys := tys, C := [(56, kPrOk), (57, kEntZ), (80, kSameE)], hty := tysOk, hC := COk.cons cPrOkI (COk.cons cEntZIy (COk.cons cEqE (COk.nil _))) }
theorem cxSmPI_t : cxSmPI.tys = tys := rfl
theorem cxSmPI_c : cxSmPI.C = [(56, kPrOk), (57, kEntZ), (80, kSameE)] := rfl
attribute [local go_sem] cxSmPI_t cxSmPI_c kPrOk kEntZ kSameE
theorem cSameI : Cn Tryz.prog 26 kSame := by
  refine Cn.pur Tryz.func26 (by kernel_rfl) rfl fun d x hx => ?_
  obtain ⟨⟨N, C⟩, ⟨M, D⟩⟩ := x
  obtain ⟨⟨⟨h1, h2⟩, h3⟩, ⟨⟨h4, h5⟩, h6⟩⟩ := hx
  simp only at h1 h2 h3 h4 h5 h6 ⊢
  have l1 := entriesOf_len N C
  refine Holds.go (c := cxSmPI) Tryz.func26 rfl Tryz.results26 Tryz.ntmps26 (by omega) (by simp) rfl ?_
  intro X0 w0
  cases hp : profileOk N C <;> cases hq : profileOk M D
  all_goals
    (repeat' (first | refine WP.seq ?_ | refine WP.block ?_ | ((first | refine WP.region ?_ | refine WP.condW ?_ | refine WP.ret ?_ | refine WP.exit ?_ | refine WP.skip ?_); simp only [go_sem, sameP, hp, hq, tyAll, Nat.reduceAdd, Nat.reduceLT, Nat.reduceLeDiff, Nat.reduceEqDiff, Nat.reduceMul, Nat.reduceSub, Nat.reduceGT, reduceIte, Int.reduceNeg, Int.reduceToNat]) | ((first | refine WP.drawW 13 (by decide +kernel) (by kernel_rfl) ?_); simp only [go_sem, sameP, hp, hq, tyAll, Nat.reduceAdd, Nat.reduceLT, Nat.reduceLeDiff, Nat.reduceEqDiff, Nat.reduceMul, Nat.reduceSub, Nat.reduceGT, reduceIte, Int.reduceNeg, Int.reduceToNat]) |  refine And.intro ?_ ?_ | intro _))
    all_goals first | omega | (simp only; omega) | exact Nat.le_trans (h2 _ ‹_›) (by omega) | exact Nat.le_trans (h5 _ ‹_›) (by omega) | rfl | (simp only [sameP, hp, hq]; rfl) | skip
    all_goals trace_state
end
end
section
open Go.Vc
set_option linter.unusedSimpArgs false
set_option linter.unusedVariables false
set_option maxHeartbeats 1000000
set_option maxRecDepth 10000
attribute [local irreducible] Go.Vc.WP
attribute [local go_sem] cx0_t cx0_c
/-- the last place of a byte -/
def lastAt (s : ByteArray) (c : UInt8) : Nat → Int
  | 0 => -1
  | k + 1 => if s[k]! = c then (k : Int) else lastAt s c k
theorem lastAt_bound (s : ByteArray) (c : UInt8) : ∀ k, -1 ≤ lastAt s c k ∧ lastAt s c k < k
  | 0 => by simp [lastAt]
  | k + 1 => by
    have := lastAt_bound s c k
    rw [lastAt]
    split <;> omega
def kLast : Ctr := pur (fun args => (aS args 0, aU args 1)) (fun x => [.v (.string x.1), .v (.int .u8 (x.2.toNat : Int))]) (fun x => x.1.size ≤ 2097152) (fun _ x => .v (.int .i64 (lastAt x.1 x.2 x.1.size))) (fun _ _ => [])
theorem cLast0 : Cn Tryz.prog 139 kLast := by
  refine Cn.pur Tryz.func139 (by kernel_rfl) rfl fun d x hx => ?_
  obtain ⟨s, c⟩ := x
  simp only at hx ⊢
  refine Holds.go (c := cx0) Tryz.func139 rfl Tryz.results139 Tryz.ntmps139 (by omega) (by simp) rfl ?_
  intro X0 w0
  (repeat' (first | refine WP.seq ?_ | refine WP.block ?_ | ((first | refine WP.region ?_ | refine WP.condW ?_ | refine WP.ret ?_ | refine WP.exit ?_ | refine WP.skip ?_); simp only [go_sem, tyAll, Nat.reduceAdd, Nat.reduceLT, Nat.reduceLeDiff, Nat.reduceEqDiff, Nat.reduceMul, Nat.reduceSub, Nat.reduceGT, reduceIte, Int.reduceNeg, Int.reduceToNat]) |  refine And.intro ?_ ?_ | intro _))
  all_goals first | omega | skip
  refine WP.loop (fun k : Nat => ⟨[(0, .v (.string s)), (1, .v (.int .u8 (c.toNat : Int))), (5, .v (.int .i64 ((k : Int) - 1)))], []⟩) (fun k => k ≤ s.size ∧ lastAt s c s.size = lastAt s c k) (fun k => k) s.size (by simp) ?_ ?_
  · (simp only [go_sem, tyAll, Nat.reduceAdd, Nat.reduceLT, Nat.reduceLeDiff, Nat.reduceEqDiff, Nat.reduceMul, Nat.reduceSub, Nat.reduceGT, reduceIte, Int.reduceNeg, Int.reduceToNat] <;> (first | rfl | exact ⟨rfl, rfl⟩ | exact ⟨rfl, rfl, rfl⟩ | exact ⟨rfl, rfl, rfl, rfl⟩ | exact ⟨rfl, rfl, rfl, rfl, rfl⟩ | exact ⟨⟨rfl, rfl⟩, rfl⟩ | simp))
  intro k ⟨hk, he⟩
  cases k with
  | zero =>
    (repeat' (first | refine WP.seq ?_ | refine WP.block ?_ | ((first | refine WP.region ?_ | refine WP.condW ?_ | refine WP.ret ?_ | refine WP.exit ?_ | refine WP.skip ?_); simp only [go_sem, tyAll, Nat.reduceAdd, Nat.reduceLT, Nat.reduceLeDiff, Nat.reduceEqDiff, Nat.reduceMul, Nat.reduceSub, Nat.reduceGT, reduceIte, Int.reduceNeg, Int.reduceToNat]) |  refine And.intro ?_ ?_ | intro _))
    all_goals first | omega | skip
    rw [he]; rfl
  | succ k =>
    have e1 : (((k + 1 : Nat) : Int) - 1) = (k : Int) := by omega
    have e2 : ((s[k]!.toNat : Int) = (c.toNat : Int)) = (s[k]! = c) := propext toNatEq
    rw [lastAt] at he
    (repeat' (first | refine WP.seq ?_ | refine WP.block ?_ | ((first | refine WP.region ?_ | refine WP.condW ?_ | refine WP.ret ?_ | refine WP.exit ?_ | refine WP.skip ?_); simp only [go_sem, e1, e2, tyAll, Nat.reduceAdd, Nat.reduceLT, Nat.reduceLeDiff, Nat.reduceEqDiff, Nat.reduceMul, Nat.reduceSub, Nat.reduceGT, reduceIte, Int.reduceNeg, Int.reduceToNat]) |  refine And.intro ?_ ?_ | intro _))
    all_goals first | omega | skip
    · rename_i h
      rw [if_pos h] at he
      rw [he]
    · rename_i h
      rw [if_neg h] at he
      exact ⟨k, ⟨by omega, he⟩, by omega, by (first | rfl | exact ⟨rfl, rfl⟩ | exact ⟨rfl, rfl, rfl⟩ | exact ⟨rfl, rfl, rfl, rfl⟩ | exact ⟨rfl, rfl, rfl, rfl, rfl⟩ | exact ⟨⟨rfl, rfl⟩, rfl⟩ | simp)⟩
section
noncomputable def cxLa : Cx := { P := Tryz.prog, tys := tys, C := [(139, kLast)], hty := tysOk, hC := COk.cons cLast0 (COk.nil _) }
theorem cxLa_t : cxLa.tys = tys := rfl
theorem cxLa_c : cxLa.C = [(139, kLast)] := rfl
attribute [local go_sem] cxLa_t cxLa_c kLast
attribute [local go_sem] aU
theorem cLast : Cn Tryz.prog 78 kLast := by
  refine Cn.pur Tryz.func78 (by kernel_rfl) rfl fun d x hx => ?_
  obtain ⟨s, c⟩ := x
  simp only at hx ⊢
  refine Holds.go (c := cxLa) Tryz.func78 rfl Tryz.results78 Tryz.ntmps78 (by omega) (by simp) rfl ?_
  intro X0 w0
  have hc : UInt8.ofNat c.toNat = c := UInt8.ofNat_toNat
  (repeat' (first | refine WP.seq ?_ | refine WP.block ?_ | ((first | refine WP.region ?_ | refine WP.condW ?_ | refine WP.ret ?_ | refine WP.exit ?_ | refine WP.skip ?_); simp only [go_sem, hc, tyAll, Nat.reduceAdd, Nat.reduceLT, Nat.reduceLeDiff, Nat.reduceEqDiff, Nat.reduceMul, Nat.reduceSub, Nat.reduceGT, reduceIte, Int.reduceNeg, Int.reduceToNat]) |  refine And.intro ?_ ?_ | intro _))
  all_goals first | omega | skip
end
/-- a line: a stack, a space, a number -/
def lineAt (s : ByteArray) : Int := lastAt s 32 s.size
def lineNum (s : ByteArray) : Option Nat := parseU (s.extract (lineAt s + 1).toNat s.size)
def foldedOk (s : ByteArray) : Bool := decide (0 ≤ lineAt s) && (lineNum s).isSome
def foldedEntry (s : ByteArray) : Entry := if foldedOk s = true then ⟨s.extract 0 (lineAt s).toNat, (((lineNum s).getD 0 : Nat) : Int)⟩ else ⟨⟨#[]⟩, 0⟩
def kFolded : Ctr := pur (fun args => aS args 0) (fun s => [.v (.string s)]) (fun s => s.size ≤ 1048576) (fun _ s => .tup [.agg (encEntry (foldedEntry s)), .v (.bool (foldedOk s))]) (fun _ _ => [])
section
noncomputable def cxFo : Cx := { P := Tryz.prog, tys := tys, C := [(78, kLast), (96, kParseU), (79, kParseU)], hty := tysOk, hC := COk.cons cLast (COk.cons cParseUS (COk.cons cParseUI (COk.nil _))) }
theorem cxFo_t : cxFo.tys = tys := rfl
theorem cxFo_c : cxFo.C = [(78, kLast), (96, kParseU), (79, kParseU)] := rfl
attribute [local go_sem] cxFo_t cxFo_c kLast kParseU
attribute [local go_sem] aU
theorem ext_size (s : ByteArray) (a b : Nat) (h : b ≤ s.size) : (s.extract a b).size ≤ s.size := by simp; omega
theorem foldedNo {s : ByteArray} (h : lineAt s < 0 ∨ (lineNum s).isSome = false) : foldedEntry s = ⟨⟨#[]⟩, 0⟩ ∧ foldedOk s = false := by
  have hf : foldedOk s = false := by
    unfold foldedOk
    rcases h with h | h
    · rw [decide_eq_false (by omega)]; rfl
    · rw [h, Bool.and_false]
  exact ⟨by unfold foldedEntry; rw [hf]; rfl, hf⟩
theorem foldedYes {s : ByteArray} (h : 0 ≤ lineAt s ∧ (lineNum s).isSome = true) : foldedEntry s = ⟨s.extract 0 (lineAt s).toNat, (((lineNum s).getD 0 : Nat) : Int)⟩ ∧ foldedOk s = true := by
  have hf : foldedOk s = true := by
    unfold foldedOk
    rw [h.2, decide_eq_true h.1]; rfl
  exact ⟨by unfold foldedEntry; rw [if_pos hf], hf⟩
theorem u32 : ((UInt8.ofNat 32).toNat : Int) = 32 := rfl
theorem u32' : UInt8.ofNat 32 = 32 := rfl
theorem cFoldedI : Cn Tryz.prog 25 kFolded := by
  refine Cn.pur Tryz.func25 (by kernel_rfl) rfl fun d x hx => ?_
  refine Holds.go (c := cxFo) Tryz.func25 rfl Tryz.results25 Tryz.ntmps25 (by omega) (by simp) rfl ?_
  intro X0 w0
  have hb := lastAt_bound x 32 x.size
  have hz := ext_size x ((lineAt x) + 1).toNat x.size (Nat.le_refl _)
  have e0 : lastAt x 32 x.size = lineAt x := rfl
  (repeat' (first | refine WP.seq ?_ | refine WP.block ?_ | ((first | refine WP.region ?_ | refine WP.condW ?_ | refine WP.ret ?_ | refine WP.exit ?_ | refine WP.skip ?_); simp only [go_sem, u32, u32', e0, encEntry, tyAll, Nat.reduceAdd, Nat.reduceLT, Nat.reduceLeDiff, Nat.reduceEqDiff, Nat.reduceMul, Nat.reduceSub, Nat.reduceGT, reduceIte, Int.reduceNeg, Int.reduceToNat]) |  refine And.intro ?_ ?_ | intro _))
  all_goals first | omega | skip
  · rfl
  · exact ⟨_, _, rfl, _, _, rfl, rfl⟩
  · rename_i h; rw [(foldedNo h).1]
  · rename_i h; rw [(foldedNo h).1]
  · rename_i h; rw [(foldedNo h).2]
  · exact ⟨_, _, rfl, _, _, rfl, rfl⟩
  · rename_i h; rw [(foldedYes h).1]
  · rename_i h; rw [(foldedYes h).1]; rfl
  · rename_i h; rw [(foldedYes h).2]
end
attribute [local go_sem] kFolded keqEntry
theorem oneEntry_ab (a : ByteArray) (b : Int) : oneEntry [.v (.string a), .v (.int .i64 b)] = ⟨a, b⟩ := rfl
end
section
open Go.Vc
set_option linter.unusedSimpArgs false
set_option linter.unusedVariables false
set_option maxHeartbeats 1000000
set_option maxRecDepth 10000
attribute [local irreducible] Go.Vc.WP
attribute [local go_sem] cx0_t cx0_c
attribute [local go_sem] isV_Node isV_It isV_Entry decNode_enc decFrame_enc oneFrame_enc stkA oneFrame_ab oneNode_abc decI_enc decS_enc aU prA decEntry_enc St.fzS addL behind
def foldGo : List (List UInt8) → Option (List Entry)
  | [] => none
  | [p] => if p = [] then some [] else none
  | p :: q :: r => if foldedOk (bts p) = true then (foldGo (q :: r)).map (foldedEntry (bts p) :: ·) else none
def parseFold (s : ByteArray) : Option (List Node × List Int) := (foldGo (cutL 10 s.data.toList)).bind profileOf
theorem foldGo_cons {p : List UInt8} {T : List (List UInt8)} (h : T ≠ []) : foldGo (p :: T) = if foldedOk (bts p) = true then (foldGo T).map (foldedEntry (bts p) :: ·) else none := by
  cases T with
  | nil => exact absurd rfl h
  | cons q r => rfl
theorem foldedEntry_size (s : ByteArray) : (foldedEntry s).stack.size ≤ s.size := by
  unfold foldedEntry
  split
  · simp only [ByteArray.size_extract]; omega
  · have : ByteArray.size ⟨#[]⟩ = 0 := rfl
    simp only [this]; omega
/-- the entries of the lines so far are L, and l is left -/
def fInv (s : ByteArray) (L : List Entry) (l : List UInt8) : Prop := foldGo (cutL 10 s.data.toList) = (foldGo (cutL 10 l)).map (L ++ ·) ∧ L.length + l.length ≤ s.size ∧ ∀ e ∈ L, e.stack.size ≤ s.size
theorem fInv_zero (s : ByteArray) : fInv s [] s.data.toList := ⟨by simp, by simp, by simp⟩
theorem fInv_wf {s : ByteArray} {L : List Entry} {l : List UInt8} (hs : s.size ≤ 1048576) (h : fInv s L l) : wfE L := ⟨by have := h.2.1; omega, fun e he => by have := h.2.2 e he; omega⟩
theorem fInv_ok {s : ByteArray} {L : List Entry} {l p r : List UInt8} (h : fInv s L l) (hc : cutL 10 l = p :: cutL 10 r) (hl : l.length = p.length + 1 + r.length) (hp : foldedOk (bts p) = true) : fInv s (L ++ [foldedEntry (bts p)]) r := by
  obtain ⟨h1, h2, h3⟩ := h
  refine ⟨?_, by simp only [List.length_append, List.length_cons, List.length_nil]; omega, fun e he => ?_⟩
  · rw [h1, hc, foldGo_cons (cutL_ne 10 r), if_pos hp]
    cases foldGo (cutL 10 r) <;> simp
  · rcases List.mem_append.1 he with he | he
    · exact h3 e he
    · simp only [List.mem_cons, List.not_mem_nil, or_false] at he
      subst he
      have := foldedEntry_size (bts p)
      rw [bts_size] at this; omega
theorem fInv_bad {s : ByteArray} {L : List Entry} {l p r : List UInt8} (h : fInv s L l) (hc : cutL 10 l = p :: cutL 10 r) (hp : foldedOk (bts p) = false) : parseFold s = none := by
  unfold parseFold
  rw [h.1, hc, foldGo_cons (cutL_ne 10 r), if_neg (by rw [hp]; simp)]; rfl
theorem fInv_end {s : ByteArray} {L : List Entry} (h : fInv s L []) : parseFold s = profileOf L := by
  unfold parseFold
  have : foldGo (cutL 10 []) = some [] := rfl
  rw [h.1, this]; simp
theorem fInv_rest {s : ByteArray} {L : List Entry} {l : List UInt8} (h : fInv s L l) (hc : cutL 10 l = [l]) (hne : l ≠ []) : parseFold s = none := by
  unfold parseFold
  rw [h.1, hc, foldGo, if_neg hne]; rfl
def kPF : Ctr := pur (fun args => aS args 0) (fun s => [.v (.string s)]) (fun s => s.size ≤ 1048576) (fun d s => .tup [.agg [.own d, .own (d + 1000)], .v (.bool (parseFold s).isSome)])
  (fun d s => [(d, .sl 157 3 (((parseFold s).getD ([], [])).1.map encNode)), (d + 1000, .sl 3 1 (((parseFold s).getD ([], [])).2.map encI))])
theorem bts_ne {l : List UInt8} (h : l ≠ []) : ¬ bts l = ⟨#[]⟩ := fun e => h (by
  have := congrArg (fun b : ByteArray => b.data.toList) e
  simpa [bts] using this)
theorem oneEntry_ab' (a : ByteArray) (b : Int) : oneEntry [.v (.string a), .v (.int .i64 b)] = ⟨a, b⟩ := rfl
section
noncomputable def cxPfoI : Cx := { P := Tryz.prog, tys := tys, C := [(76, kCut), (25, kFolded), (77, kProfOf)], hty := tysOk, hC := COk.cons cCut (COk.cons cFoldedI (COk.cons cProfOfI (COk.nil _))) }
theorem cxPfoI_t : cxPfoI.tys = tys := rfl
theorem cxPfoI_c : cxPfoI.C = [(76, kCut), (25, kFolded), (77, kProfOf)] := rfl
attribute [local go_sem] cxPfoI_t cxPfoI_c kCut kFolded kProfOf
theorem cPFI : Cn Tryz.prog 24 kPF := by
  refine Cn.pur Tryz.func24 (by kernel_rfl) rfl fun d x hx => ?_
  rename ByteArray => s
  refine Holds.go (c := cxPfoI) Tryz.func24 rfl Tryz.results24 Tryz.ntmps24 (by omega) (by simp) rfl ?_
  intro X0 w0
  (repeat' (first | refine WP.seq ?_ | refine WP.block ?_ | ((first | refine WP.region ?_ | refine WP.condW ?_ | refine WP.ret ?_ | refine WP.exit ?_ | refine WP.skip ?_); simp only [go_sem, tyAll, Nat.reduceAdd, Nat.reduceLT, Nat.reduceLeDiff, Nat.reduceEqDiff, Nat.reduceMul, Nat.reduceSub, Nat.reduceGT, reduceIte, Int.reduceNeg, Int.reduceToNat]) |  refine And.intro ?_ ?_ | intro _))
  all_goals first | omega | skip
  refine WP.loop (fun q : List Entry × List UInt8 => ⟨[(0, .v (.string (bts q.2))), (2, .ptr 2 0 0 0), (4, .own 10)], [(2, .box 29 [.v (.slice none 0 0), .v (.slice none 0 0)]), (10, .sl 54 2 (q.1.map encEntry))]⟩)
    (fun q => fInv s q.1 q.2) (fun q => q.2.length) ([], s.data.toList) (fInv_zero s) ?_ ?_
  · have e : bts s.data.toList = s := bts_list s
    simp only [e]
    (simp only [go_sem, tyAll, Nat.reduceAdd, Nat.reduceLT, Nat.reduceLeDiff, Nat.reduceEqDiff, Nat.reduceMul, Nat.reduceSub, Nat.reduceGT, reduceIte, Int.reduceNeg, Int.reduceToNat] <;> (first | rfl | exact ⟨rfl, rfl⟩ | exact ⟨rfl, rfl, rfl⟩ | exact ⟨rfl, rfl, rfl, rfl⟩ | exact ⟨rfl, rfl, rfl, rfl, rfl⟩ | exact ⟨⟨rfl, rfl⟩, rfl⟩ | simp))
  rintro ⟨L, l⟩ hI
  simp only at hI ⊢
  have hwf := fInv_wf hx hI
  have hll := hI.2.1
  have hbd : (bts l).data.toList = l := by simp [bts]
  have hbz : (bts l).size = l.length := bts_size l
  have h10 : (⟨#[10]⟩ : ByteArray).data.toList = [10] := rfl
  by_cases h0 : l = []
  · subst h0
    have hnil : bts [] = ⟨#[]⟩ := rfl
    have hend := fInv_end hI
    (repeat' (first | refine WP.seq ?_ | refine WP.block ?_ | ((first | refine WP.region ?_ | refine WP.condW ?_ | refine WP.ret ?_ | refine WP.exit ?_ | refine WP.skip ?_); simp only [go_sem, hnil, hend, tyAll, Nat.reduceAdd, Nat.reduceLT, Nat.reduceLeDiff, Nat.reduceEqDiff, Nat.reduceMul, Nat.reduceSub, Nat.reduceGT, reduceIte, Int.reduceNeg, Int.reduceToNat]) |  refine And.intro ?_ ?_ | intro _))
    all_goals first | omega | exact hwf.1 | exact hwf.2 _ ‹_› | exact ⟨_, _, _, rfl⟩ | exact ⟨_, _, rfl, _, _, rfl, rfl⟩ | exact if_neg (by omega) | exact ⟨_, _, if_neg (by omega)⟩ | exact ⟨_, _, rfl⟩ | skip
    all_goals trace_state
  have hne := bts_ne h0
  rcases cut_first 10 l with hc | ⟨x, r, hlx, hc⟩
  · have hcut := libcut_no 10 hc
    have hbad := fInv_rest hI (cutL_plain 10 hc) h0
    (repeat' (first | refine WP.seq ?_ | refine WP.block ?_ | ((first | refine WP.region ?_ | refine WP.condW ?_ | refine WP.ret ?_ | refine WP.exit ?_ | refine WP.skip ?_); simp only [go_sem, hne, hbd, h10, hcut, hbad, encEntry, tyAll, Nat.reduceAdd, Nat.reduceLT, Nat.reduceLeDiff, Nat.reduceEqDiff, Nat.reduceMul, Nat.reduceSub, Nat.reduceGT, reduceIte, Int.reduceNeg, Int.reduceToNat]) |  refine And.intro ?_ ?_ | intro _))
    all_goals first | omega | exact ⟨_, _, _, rfl⟩ | exact ⟨_, _, rfl, _, _, rfl, rfl⟩ | exact if_neg (by omega) | exact ⟨_, _, if_neg (by omega)⟩ | exact ⟨_, _, rfl⟩ | skip
    all_goals trace_state
  · have hcut := libcut_at 10 r hc
    rw [← hlx] at hcut
    have hcl : cutL 10 l = x :: cutL 10 r := by rw [hlx]; exact cutL_app 10 r hc
    have hlen : l.length = x.length + 1 + r.length := by rw [hlx]; simp; omega
    have hxz : (bts x).size = x.length := bts_size x
    cases hf : foldedOk (bts x) with
    | false =>
      have hbad := fInv_bad hI hcl hf
      (repeat' (first | refine WP.seq ?_ | refine WP.block ?_ | ((first | refine WP.region ?_ | refine WP.condW ?_ | refine WP.ret ?_ | refine WP.exit ?_ | refine WP.skip ?_); simp only [go_sem, hne, hbd, h10, hcut, hbad, hf, encEntry, tyAll, Nat.reduceAdd, Nat.reduceLT, Nat.reduceLeDiff, Nat.reduceEqDiff, Nat.reduceMul, Nat.reduceSub, Nat.reduceGT, reduceIte, Int.reduceNeg, Int.reduceToNat]) |  refine And.intro ?_ ?_ | intro _))
      all_goals first | omega | exact ⟨_, _, _, rfl⟩ | exact ⟨_, _, rfl, _, _, rfl, rfl⟩ | exact if_neg (by omega) | exact ⟨_, _, if_neg (by omega)⟩ | exact ⟨_, _, rfl⟩ | skip
      all_goals trace_state
    | true =>
      have hok := fInv_ok hI hcl hlen hf
      (repeat' (first | refine WP.seq ?_ | refine WP.block ?_ | ((first | refine WP.region ?_ | refine WP.condW ?_ | refine WP.ret ?_ | refine WP.exit ?_ | refine WP.skip ?_); simp only [go_sem, hne, hbd, h10, hcut, hf, encEntry, tyAll, Nat.reduceAdd, Nat.reduceLT, Nat.reduceLeDiff, Nat.reduceEqDiff, Nat.reduceMul, Nat.reduceSub, Nat.reduceGT, reduceIte, Int.reduceNeg, Int.reduceToNat]) |  refine And.intro ?_ ?_ | intro _))
      all_goals first | omega | exact ⟨_, _, _, rfl⟩ | exact ⟨_, _, rfl, _, _, rfl, rfl⟩ | skip
      all_goals first | exact ⟨(L ++ [foldedEntry (bts x)], r), hok, by simp only; omega, by simp only [List.map_append, List.map_cons, List.map_nil, encEntry]; (first | rfl | exact ⟨rfl, rfl⟩ | exact ⟨rfl, rfl, rfl⟩ | exact ⟨rfl, rfl, rfl, rfl⟩ | exact ⟨rfl, rfl, rfl, rfl, rfl⟩ | exact ⟨⟨rfl, rfl⟩, rfl⟩ | simp)⟩ | trace_state
end
section
attribute [local go_sem] kFolded kProfOf
end
end
end Go.Proofs.YtklcphbgaeiegaaGreatDoor
/-
  DERIVED. Plain lists: folded text, written and read.
-/
namespace Go.Proofs.YtklcphbgaeiegaaGreatDoor
set_option linter.unusedVariables false
open Go.Pl
/-- the line of an entry, without its end -/
def lineL (e : Entry) : List UInt8 := e.stack.data.toList ++ 32 :: fmtL e.count.toNat
def textL : List Entry → List UInt8
  | [] => []
  | e :: E => lineL e ++ 10 :: textL E
/-- entries that can be written and read -/
def canW (e : Entry) : Prop := (10 : UInt8) ∉ e.stack.data.toList ∧ 0 ≤ e.count ∧ e.count ≤ 1000000000
theorem dig_no (k : Nat) (c : UInt8) (h : c.toNat < 48) : c ∉ fmtL k := fun hc => by have := fmtL_dig k c hc; omega
theorem line_no10 {e : Entry} (h : canW e) : (10 : UInt8) ∉ lineL e := by
  unfold lineL
  rw [List.mem_append, List.mem_cons]
  rintro (h1 | h1 | h1)
  · exact h.1 h1
  · cases h1
  · exact dig_no _ 10 (by decide) h1
theorem textL_cut {E : List Entry} (h : ∀ e ∈ E, canW e) : cutL 10 (textL E) = E.map lineL ++ [[]] := by
  induction E with
  | nil => rfl
  | cons e E ih =>
    rw [textL, cutL_app 10 _ (line_no10 (h e List.mem_cons_self)), ih fun x hx => h x (List.mem_cons_of_mem _ hx)]
    rfl
theorem lastAt_eq {s : ByteArray} {c : UInt8} {q : Nat} (hc : s[q]! = c) (hn : ∀ j, q < j → j < s.size → s[j]! ≠ c) : ∀ k, q < k → k ≤ s.size → lastAt s c k = q
  | 0, h, _ => by omega
  | k + 1, h, hk => by
    rw [lastAt]
    rcases Nat.lt_or_ge q k with h1 | h1
    · rw [if_neg (hn k h1 (by omega))]
      exact lastAt_eq hc hn k h1 (by omega)
    · have : k = q := by omega
      subst this
      rw [if_pos hc]
theorem bts_get {l : List UInt8} {k : Nat} (h : k < l.length) : (bts l)[k]! = l[k] := by
  have hs : (bts l).size = l.length := bts_size l
  rw [getElem!_pos (bts l) k (by omega)]
  simp [bts]
  rfl
theorem line_at (e : Entry) : lineAt (bts (lineL e)) = e.stack.size := by
  have hl : (lineL e).length = e.stack.size + 1 + (fmtL e.count.toNat).length := by unfold lineL; simp; omega
  have hs : (bts (lineL e)).size = (lineL e).length := bts_size _
  have hd : e.stack.data.toList.length = e.stack.size := by simp
  unfold lineAt
  refine lastAt_eq ?_ (fun j h1 h2 => ?_) _ (by omega) (Nat.le_refl _)
  · rw [bts_get (by omega)]
    unfold lineL
    rw [List.getElem_append_right (by omega)]
    simp [hd]
  · rw [bts_get (by omega)]
    have hj : (lineL e)[j] = (fmtL e.count.toNat)[j - (e.stack.size + 1)]'(by omega) := by
      have h3 : (lineL e)[j]? = (fmtL e.count.toNat)[j - (e.stack.size + 1)]? := by
        unfold lineL
        rw [List.getElem?_append_right (by omega), hd, show j - e.stack.size = (j - (e.stack.size + 1)) + 1 by omega, List.getElem?_cons_succ]
      rw [List.getElem?_eq_getElem (by omega), List.getElem?_eq_getElem (by omega)] at h3
      exact Option.some.inj h3
    intro he
    have he2 := hj.symm.trans he
    exact dig_no e.count.toNat 32 (by decide) (by rw [← he2]; exact List.getElem_mem _)
theorem line_back {e : Entry} (h : canW e) : foldedOk (bts (lineL e)) = true ∧ foldedEntry (bts (lineL e)) = e := by
  have ha := line_at e
  have hl : (lineL e).length = e.stack.size + 1 + (fmtL e.count.toNat).length := by unfold lineL; simp; omega
  have hs : (bts (lineL e)).size = (lineL e).length := bts_size _
  have hd : e.stack.data.toList.length = e.stack.size := by simp
  have hb : (bts (lineL e)).data.toList = lineL e := by simp [bts]
  have hnum : lineNum (bts (lineL e)) = some e.count.toNat := by
    unfold lineNum
    rw [ha, show ((e.stack.size : Int) + 1).toNat = e.stack.size + 1 by omega, seg_ext _ _ _ (Nat.le_refl _), hb, hs]
    have : seg (lineL e) (e.stack.size + 1) (lineL e).length = fmtL e.count.toNat := by
      unfold seg lineL
      rw [List.drop_append, List.drop_of_length_le (by omega), hd, show e.stack.size + 1 - e.stack.size = 1 by omega, List.nil_append, List.drop_succ_cons, List.drop_zero]
      exact List.take_of_length_le (by simp; omega)
    rw [this]
    exact parseU_fmtL _ (by have := h.2.2; omega)
  have hok : foldedOk (bts (lineL e)) = true := by unfold foldedOk; rw [hnum, ha]; simp
  refine ⟨hok, ?_⟩
  unfold foldedEntry
  rw [if_pos hok, hnum, ha]
  have h1 : (bts (lineL e)).extract 0 ((e.stack.size : Int)).toNat = e.stack := by
    rw [seg_ext _ _ _ (by rw [hs, hl]; omega), hb]
    have : seg (lineL e) 0 ((e.stack.size : Int)).toNat = e.stack.data.toList := by
      unfold seg lineL
      rw [List.drop_zero, Nat.sub_zero, Int.toNat_natCast, List.take_append_of_le_length (by omega), List.take_of_length_le (by omega)]
    rw [this]
    exact bts_list _
  rw [h1]
  obtain ⟨a, b⟩ := e
  simp only [Option.getD_some, Entry.mk.injEq, true_and]
  have := h.2.1
  simp only at this
  omega
theorem foldGo_lines {E : List Entry} (h : ∀ e ∈ E, canW e) : foldGo (E.map lineL ++ [[]]) = some E := by
  induction E with
  | nil => rfl
  | cons e E ih =>
    obtain ⟨h1, h2⟩ := line_back (h e List.mem_cons_self)
    rw [List.map_cons, List.cons_append, foldGo_cons (by simp), if_pos h1, ih fun x hx => h x (List.mem_cons_of_mem _ hx), h2]; rfl
theorem parse_text {E : List Entry} (h : ∀ e ∈ E, canW e) : parseFold (bts (textL E)) = profileOf E := by
  unfold parseFold
  have : (bts (textL E)).data.toList = textL E := by simp [bts]
  rw [this, textL_cut h, foldGo_lines h]; rfl
end Go.Proofs.YtklcphbgaeiegaaGreatDoor

namespace Go.Proofs.YtklcphbgaeiegaaGreatDoor
open Go.Vc
attribute [local go_sem] St.runR St.runW St.stepV offV St.step St.stepU St.stepG mkCond guardB St.prK St.pr St.prLen St.eff St.callE St.callD St.callF St.callL aI aB aS aR aC St.isM St.argL Ctr.pure Ctr.lend Ctr.move Ctr.isL Ctr.wri pur len lentBy St.lentV St.lent1 nthS argsR restOf obsR pairs swapL unObs backL St.resL erL SV.ren1 SV.up SV.up2 Ob.up St.fzL cellIds partIds St.intoRow SV.ownId St.fz SV.fz1 St.prep St.mvL St.mv SV.re1 rnOk St.prEq vals eqCells scEq Value.kd St.prStr St.prCut cutR St.bnd St.prMin St.bld isShift outL retL outJ oR oC St.ev St.get St.put St.new St.kill SV.kill SV.kill1 Ob.kill St.app St.wrt St.rowsOf St.res St.killL lk er argsL SV.strip SV.need SV.share SV.share1 SV.owns SV.owns1 SV.owns2 SV.good SV.good1 SV.rok SV.rok1 SV.rok2 SV.isV SV.isV2 nodupN SV.cells SV.one SV.pur Ob.pb partsIn rowsIn splice cellsAt dstOk scal2 scal1 thenK blockK retK outK outs okC okL okA okT nilC nilL nilA nilT keepC keepL keepA keepT St.runG St.dltK St.least St.clean St.final St.hide offK badS badO SV.refs SV.leaf SV.leaf2 Ob.refs dlOk fpAt Go.Vc.cover tups SV.ofAgg St.out outC subL St.has rng wr Value.oneCell' Option.isSome_some Option.isSome_none List.nil_append Bool.false_eq_true List.map_cons List.map_nil List.all_cons List.all_nil List.length_cons List.length_nil List.drop_zero List.drop_succ_cons List.take_succ_cons List.take_zero List.drop_nil List.take_nil List.getElem?_cons_zero List.getElem?_cons_succ List.getElem?_nil List.cons_append List.nil_append List.append_nil List.append_assoc List.flatMap_cons List.flatMap_nil List.contains_cons List.contains_nil List.set_cons_zero List.set_cons_succ List.getElem?_toArray Option.getD_some Option.getD_none Option.map_some Option.map_none Option.bind_some Option.some.injEq Prod.mk.injEq if_true if_false true_and and_true and_self and_false false_and Bool.and_false Bool.false_and Bool.or_true Bool.true_or Bool.or_false Bool.false_or ne_eq not_true_eq_false not_false_eq_true decide_true decide_false List.mem_cons List.not_mem_nil List.filter_cons List.filter_nil List.any_cons List.any_nil List.isEmpty_nil List.isEmpty_cons Option.getD_none or_false false_or true_or or_true forall_eq_or_imp forall_eq reduceCtorEq exists_eq exists_eq' exists_eq_left' exists_eq_left exists_eq_right exists_eq_right' imp_self implies_true Bool.and_true Bool.true_and Bool.and_self beq_self_eq_true List.replicate_succ List.replicate_zero forall_const false_implies pickB_or pickB_and beqT beqF Int.toNat_natCast List.length_map List.length_replicate ge_iff_le gt_iff_lt decide_eq_true_eq decide_eq_false_iff_not Bool.and_eq_true Bool.or_eq_true Bool.not_eq_true' Bool.not_eq_false' condG List.toList_toArray Bool.or_eq_false_iff Bool.and_eq_false_iff Int.not_lt Int.not_le beq_iff_eq beq_eq_false_iff_ne bne_iff_ne bne_eq_false_iff_eq ne_eq Bool.not_true Bool.not_false exists_and_left
section
open Go.Vc
set_option linter.unusedSimpArgs false
set_option linter.unusedVariables false
set_option maxHeartbeats 1000000
set_option maxRecDepth 10000
attribute [local irreducible] Go.Vc.WP
attribute [local go_sem] cx0_t cx0_c
attribute [local go_sem] decNode_enc decFrame_enc oneFrame_enc stkA oneFrame_ab oneNode_abc decI_enc prA
def kTotal : Ctr := pur (fun args => prA args 0) (fun x => [.agg [.sl 3 (x.1.map encNode), .sl 1 (x.2.map encI)]]) wfP (fun _ x => .v (.int .i64 (totalOf x.1 x.2))) (fun _ _ => [])
section
noncomputable def cxToI : Cx := { P := Tryz.prog, tys := tys, C := [(56, kPrOk)], hty := tysOk, hC := COk.cons cPrOkI (COk.nil _) }
theorem cxToI_t : cxToI.tys = tys := rfl
theorem cxToI_c : cxToI.C = [(56, kPrOk)] := rfl
attribute [local go_sem] cxToI_t cxToI_c kPrOk
theorem cTotalI : Cn Tryz.prog 72 kTotal := by
  refine Cn.pur Tryz.func72 (by kernel_rfl) rfl fun d x hx => ?_
  obtain ⟨N, C⟩ := x
  obtain ⟨⟨hN, hs⟩, hC⟩ := hx
  simp only at hN hs hC ⊢
  refine Holds.go (c := cxToI) Tryz.func72 rfl Tryz.results72 Tryz.ntmps72 (by omega) (by simp) rfl ?_
  intro X0 w0
  (repeat' (first | refine WP.seq ?_ | refine WP.block ?_ | ((first | refine WP.region ?_ | refine WP.condW ?_ | refine WP.ret ?_ | refine WP.exit ?_ | refine WP.skip ?_); simp only [go_sem, tyAll, Nat.reduceAdd, Nat.reduceLT, Nat.reduceLeDiff, Nat.reduceEqDiff, Nat.reduceMul, Nat.reduceSub, Nat.reduceGT, reduceIte, Int.reduceNeg, Int.reduceToNat]) |  refine And.intro ?_ ?_ | intro _))
  all_goals first | omega | (simp only; omega) | exact hs _ ‹_› | skip
  · rename_i h; rw [show totalOf N C = 0 from if_neg (by rw [h]; simp)]
  rename_i hp
  have ht : totalOf N C = C.sum := if_pos hp
  refine WP.loop (fun k : Nat => ⟨[(3, .v (.int .i64 (C.take k).sum)), (10, .sl 1 (C.map encI)), (11, .v (.int .i64 C.length)), (12, .v (.int .i64 k))], []⟩)
    (fun k => k ≤ C.length) (fun k => C.length - k) 0 (by simp) ?_ ?_
  · (simp only [go_sem, tyAll, Nat.reduceAdd, Nat.reduceLT, Nat.reduceLeDiff, Nat.reduceEqDiff, Nat.reduceMul, Nat.reduceSub, Nat.reduceGT, reduceIte, Int.reduceNeg, Int.reduceToNat] <;> (first | rfl | exact ⟨rfl, rfl⟩ | exact ⟨rfl, rfl, rfl⟩ | exact ⟨rfl, rfl, rfl, rfl⟩ | exact ⟨rfl, rfl, rfl, rfl, rfl⟩ | exact ⟨⟨rfl, rfl⟩, rfl⟩ | simp))
  intro k hk
  have hsum := profileOk_sum hp k hk
  by_cases hlt : k < C.length
  · have h1 := rowAt_map encI C k hlt
    have h2 := take_sum C k hlt
    have h3 := cntOk_at (profileOk_iff.1 hp).2.2 k hlt
    (repeat' (first | refine WP.seq ?_ | refine WP.block ?_ | ((first | refine WP.region ?_ | refine WP.condW ?_ | refine WP.ret ?_ | refine WP.exit ?_ | refine WP.skip ?_); simp only [go_sem, h1, encI, tyAll, Nat.reduceAdd, Nat.reduceLT, Nat.reduceLeDiff, Nat.reduceEqDiff, Nat.reduceMul, Nat.reduceSub, Nat.reduceGT, reduceIte, Int.reduceNeg, Int.reduceToNat]) |  refine And.intro ?_ ?_ | intro _))
    all_goals first | omega | skip
    exact ⟨k + 1, by omega, by omega, by rw [h2]; (first | rfl | exact ⟨rfl, rfl⟩ | exact ⟨rfl, rfl, rfl⟩ | exact ⟨rfl, rfl, rfl, rfl⟩ | exact ⟨rfl, rfl, rfl, rfl, rfl⟩ | exact ⟨⟨rfl, rfl⟩, rfl⟩ | simp)⟩
  · rw [show k = C.length by omega, List.take_length]
    (repeat' (first | refine WP.seq ?_ | refine WP.block ?_ | ((first | refine WP.region ?_ | refine WP.condW ?_ | refine WP.ret ?_ | refine WP.exit ?_ | refine WP.skip ?_); simp only [go_sem, tyAll, Nat.reduceAdd, Nat.reduceLT, Nat.reduceLeDiff, Nat.reduceEqDiff, Nat.reduceMul, Nat.reduceSub, Nat.reduceGT, reduceIte, Int.reduceNeg, Int.reduceToNat]) |  refine And.intro ?_ ?_ | intro _))
    all_goals first | omega | skip
    rw [ht]
end
section
noncomputable def cxToS : Cx := { P := Tryz.prog, tys := tys, C := [(63, kPrOk)], hty := tysOk, hC := COk.cons cPrOkS (COk.nil _) }
theorem cxToS_t : cxToS.tys = tys := rfl
theorem cxToS_c : cxToS.C = [(63, kPrOk)] := rfl
attribute [local go_sem] cxToS_t cxToS_c kPrOk
theorem cTotalS : Cn Tryz.prog 15 kTotal := by
  refine Cn.pur Tryz.func15 (by kernel_rfl) rfl fun d x hx => ?_
  obtain ⟨N, C⟩ := x
  obtain ⟨⟨hN, hs⟩, hC⟩ := hx
  simp only at hN hs hC ⊢
  refine Holds.go (c := cxToS) Tryz.func15 rfl Tryz.results15 Tryz.ntmps15 (by omega) (by simp) rfl ?_
  intro X0 w0
  (repeat' (first | refine WP.seq ?_ | refine WP.block ?_ | ((first | refine WP.region ?_ | refine WP.condW ?_ | refine WP.ret ?_ | refine WP.exit ?_ | refine WP.skip ?_); simp only [go_sem, tyAll, Nat.reduceAdd, Nat.reduceLT, Nat.reduceLeDiff, Nat.reduceEqDiff, Nat.reduceMul, Nat.reduceSub, Nat.reduceGT, reduceIte, Int.reduceNeg, Int.reduceToNat]) |  refine And.intro ?_ ?_ | intro _))
  all_goals first | omega | (simp only; omega) | exact hs _ ‹_› | skip
  refine WP.loop (fun k : Nat => ⟨[(1, .ptr 1 0 0 0), (3, .v (.int .i64 (C.take k).sum)), (4, .v (.bool (profileOk N C))), (5, .v (.int .i64 k))], [(1, .box 29 [.sl 3 (N.map encNode), .sl 1 (C.map encI)])]⟩)
    (fun k => k ≤ C.length ∧ (profileOk N C = false → k = 0)) (fun k => C.length - k) 0 (by simp) ?_ ?_
  · (simp only [go_sem, tyAll, Nat.reduceAdd, Nat.reduceLT, Nat.reduceLeDiff, Nat.reduceEqDiff, Nat.reduceMul, Nat.reduceSub, Nat.reduceGT, reduceIte, Int.reduceNeg, Int.reduceToNat] <;> (first | rfl | exact ⟨rfl, rfl⟩ | exact ⟨rfl, rfl, rfl⟩ | exact ⟨rfl, rfl, rfl, rfl⟩ | exact ⟨rfl, rfl, rfl, rfl, rfl⟩ | exact ⟨⟨rfl, rfl⟩, rfl⟩ | simp))
  intro k ⟨hk, hk0⟩
  cases hp : profileOk N C with
  | true =>
    have ht : totalOf N C = C.sum := if_pos hp
    have hsum := profileOk_sum hp k hk
    by_cases hlt : k < C.length
    · have h1 := rowAt_map encI C k hlt
      have h2 := take_sum C k hlt
      have h3 := cntOk_at (profileOk_iff.1 hp).2.2 k hlt
      (repeat' (first | refine WP.seq ?_ | refine WP.block ?_ | ((first | refine WP.region ?_ | refine WP.condW ?_ | refine WP.ret ?_ | refine WP.exit ?_ | refine WP.skip ?_); simp only [go_sem, h1, encI, tyAll, Nat.reduceAdd, Nat.reduceLT, Nat.reduceLeDiff, Nat.reduceEqDiff, Nat.reduceMul, Nat.reduceSub, Nat.reduceGT, reduceIte, Int.reduceNeg, Int.reduceToNat]) |  refine And.intro ?_ ?_ | intro _))
      all_goals first | omega | skip
      exact ⟨k + 1, by omega, by omega, by rw [h2]; (first | rfl | exact ⟨rfl, rfl⟩ | exact ⟨rfl, rfl, rfl⟩ | exact ⟨rfl, rfl, rfl, rfl⟩ | exact ⟨rfl, rfl, rfl, rfl, rfl⟩ | exact ⟨⟨rfl, rfl⟩, rfl⟩ | simp)⟩
    · rw [show k = C.length by omega, List.take_length]
      (repeat' (first | refine WP.seq ?_ | refine WP.block ?_ | ((first | refine WP.region ?_ | refine WP.condW ?_ | refine WP.ret ?_ | refine WP.exit ?_ | refine WP.skip ?_); simp only [go_sem, tyAll, Nat.reduceAdd, Nat.reduceLT, Nat.reduceLeDiff, Nat.reduceEqDiff, Nat.reduceMul, Nat.reduceSub, Nat.reduceGT, reduceIte, Int.reduceNeg, Int.reduceToNat]) |  refine And.intro ?_ ?_ | intro _))
      all_goals first | omega | skip
      rw [ht]
  | false =>
    have ht : totalOf N C = 0 := if_neg (by rw [hp]; simp)
    rw [hk0 hp]
    (repeat' (first | refine WP.seq ?_ | refine WP.block ?_ | ((first | refine WP.region ?_ | refine WP.condW ?_ | refine WP.ret ?_ | refine WP.exit ?_ | refine WP.skip ?_); simp only [go_sem, ht, tyAll, Nat.reduceAdd, Nat.reduceLT, Nat.reduceLeDiff, Nat.reduceEqDiff, Nat.reduceMul, Nat.reduceSub, Nat.reduceGT, reduceIte, Int.reduceNeg, Int.reduceToNat]) |  refine And.intro ?_ ?_ | intro _))
    all_goals first | omega | skip
    all_goals simp
end
end
section
open Go.Vc
set_option linter.unusedSimpArgs false
set_option linter.unusedVariables false
set_option maxHeartbeats 1000000
set_option maxRecDepth 10000
attribute [local irreducible] Go.Vc.WP
attribute [local go_sem] cx0_t cx0_c
attribute [local go_sem] decNode_enc decFrame_enc oneFrame_enc stkA oneFrame_ab oneNode_abc decI_enc prA encI_inj
theorem szGo_neg : ∀ (l : List Nat) (r : Int), 0 ≤ r → szGo l r < 0 → szGo l r = -1
  | [], r, h, h2 => by unfold szGo at h2 ⊢; omega
  | n :: l, r, h, h2 => by
    unfold szGo at h2 ⊢
    split
    · rfl
    · rename_i h3
      rw [if_neg h3] at h2
      exact szGo_neg l _ (by omega) h2
theorem szGo_le1 : ∀ (l : List Nat) (r : Int), -1 ≤ r → szGo l r ≤ r
  | [], r, h => Int.le_refl _
  | n :: l, r, h => by
    unfold szGo
    split
    · omega
    · have := szGo_le1 l (r - n) (by omega)
      omega
theorem szvNode_neg {N : List Node} {l : Int} (h0 : 0 ≤ l) (h : szvNode N l < 0) : szvNode N l = -1 := by
  unfold szvNode at h ⊢
  split
  · rfl
  · rename_i h2
    rw [if_neg h2] at h
    exact szGo_neg _ _ (by omega) h
theorem szvNode_le {N : List Node} {l : Int} (h0 : 0 ≤ l) : szvNode N l ≤ l := by
  unfold szvNode
  split
  · omega
  · have := szGo_le1 (sizesNode N) (l - N.length) (by omega)
    omega
theorem szvNode_ok' {N : List Node} {l : Int} (hl : l ≤ 1048576) (h : ¬ szvNode N l < 0) : N.length ≤ 1048576 ∧ ∀ x ∈ N, x.name.size ≤ 1048576 := by
  unfold szvNode at h
  split at h
  · omega
  · rename_i h2
    refine ⟨by omega, fun x hx => ?_⟩
    have := szGo_ok (sizesNode N) _ (by omega) (Int.not_lt.1 h) x.name.size (List.mem_map.2 ⟨x, hx, rfl⟩)
    omega
def kszI : Ctr := pur (fun args => (decI (aR args 0), aI args 1)) (fun x => [.sl 1 (x.1.map encI), .v (.int .i64 x.2)]) (fun x => x.1.length ≤ maxLen ∧ 0 ≤ x.2 ∧ x.2 ≤ 1048576)
  (fun _ x => .v (.int .i64 (if x.2 - x.1.length < 0 then -1 else x.2 - x.1.length))) (fun _ _ => [])
section
noncomputable def cxSzI : Cx := { P := Tryz.prog, tys := tys, C := [], hty := tysOk, hC := COk.nil _ }
theorem cxSzI_t : cxSzI.tys = tys := rfl
theorem cxSzI_c : cxSzI.C = [] := rfl
attribute [local go_sem] cxSzI_t cxSzI_c 
theorem cszI : Cn Tryz.prog 99 kszI := by
  refine Cn.pur Tryz.func99 (by kernel_rfl) rfl fun d x hx => ?_
  obtain ⟨L, left⟩ := x
  obtain ⟨hL, h0, h1⟩ := hx
  simp only at hL h0 h1 ⊢
  have hm : maxLen = 9223372036854775807 := rfl
  refine Holds.go (c := cxSzI) Tryz.func99 rfl Tryz.results99 Tryz.ntmps99 (by omega) (by simp) rfl ?_
  intro X0 w0
  (repeat' (first | refine WP.seq ?_ | refine WP.block ?_ | ((first | refine WP.region ?_ | refine WP.condW ?_ | refine WP.ret ?_ | refine WP.exit ?_ | refine WP.skip ?_); simp only [go_sem, tyAll, Nat.reduceAdd, Nat.reduceLT, Nat.reduceLeDiff, Nat.reduceEqDiff, Nat.reduceMul, Nat.reduceSub, Nat.reduceGT, reduceIte, Int.reduceNeg, Int.reduceToNat]) |  refine And.intro ?_ ?_ | intro _))
  all_goals first | omega | skip
  · rename_i h; rw [if_pos h]
  · rename_i h; rw [if_neg (by omega)]
end
def kszStk : Ctr := pur (fun args => (stkA args 0, aI args 1)) (fun x => [.agg [.sl 3 (x.1.map encNode)], .v (.int .i64 x.2)]) (fun x => x.1.length ≤ maxLen ∧ (∀ r ∈ x.1, r.name.size ≤ maxLen) ∧ 0 ≤ x.2 ∧ x.2 ≤ 1048576)
  (fun _ x => .v (.int .i64 (szvNode x.1 x.2))) (fun _ _ => [])
section
noncomputable def cxSzStk : Cx := { P := Tryz.prog, tys := tys, C := [(147, kszNodeS)], hty := tysOk, hC := COk.cons cszNodeS (COk.nil _) }
theorem cxSzStk_t : cxSzStk.tys = tys := rfl
theorem cxSzStk_c : cxSzStk.C = [(147, kszNodeS)] := rfl
attribute [local go_sem] cxSzStk_t cxSzStk_c kszNodeS
theorem cszStk : Cn Tryz.prog 98 kszStk := by
  refine Cn.pur Tryz.func98 (by kernel_rfl) rfl fun d x hx => ?_
  obtain ⟨N, left⟩ := x
  obtain ⟨hN, hs, h0, h1⟩ := hx
  simp only at hN hs h0 h1 ⊢
  refine Holds.go (c := cxSzStk) Tryz.func98 rfl Tryz.results98 Tryz.ntmps98 (by omega) (by simp) rfl ?_
  intro X0 w0
  (repeat' (first | refine WP.seq ?_ | refine WP.block ?_ | ((first | refine WP.region ?_ | refine WP.condW ?_ | refine WP.ret ?_ | refine WP.exit ?_ | refine WP.skip ?_); simp only [go_sem, tyAll, Nat.reduceAdd, Nat.reduceLT, Nat.reduceLeDiff, Nat.reduceEqDiff, Nat.reduceMul, Nat.reduceSub, Nat.reduceGT, reduceIte, Int.reduceNeg, Int.reduceToNat]) |  refine And.intro ?_ ?_ | intro _))
  all_goals first | omega | exact hs _ ‹_› | skip
  · rename_i h; rw [szvNode_neg h0 h]
end
def szvPr (x : List Node × List Int) (l : Int) : Int := if szvNode x.1 l < 0 then -1 else if szvNode x.1 l - x.2.length < 0 then -1 else szvNode x.1 l - x.2.length
theorem szvPr_le {x : List Node × List Int} {l : Int} (h0 : 0 ≤ l) : szvPr x l ≤ l := by
  have := szvNode_le (N := x.1) h0
  unfold szvPr
  split
  · omega
  · split <;> omega
theorem szvPr_neg {x : List Node × List Int} {l : Int} (h : szvPr x l < 0) : szvPr x l = -1 := by
  unfold szvPr at h ⊢
  split
  · rfl
  · split
    · rfl
    · rename_i h1 h2; rw [if_neg h1, if_neg h2] at h; omega
theorem szvPr_ok {x : List Node × List Int} {l : Int} (hl : l ≤ 1048576) (h : ¬ szvPr x l < 0) : (x.1.length ≤ 1048576 ∧ ∀ n ∈ x.1, n.name.size ≤ 1048576) ∧ x.2.length ≤ 1048576 := by
  unfold szvPr at h
  split at h
  · omega
  · rename_i h1
    refine ⟨szvNode_ok' hl h1, ?_⟩
    split at h
    · omega
    · by_cases h0 : 0 ≤ l
      · have := szvNode_le (N := x.1) h0
        omega
      · exfalso
        apply h1
        unfold szvNode
        rw [if_pos (by omega)]; omega
def wfM (x : List Node × List Int) : Prop := x.1.length ≤ maxLen ∧ (∀ r ∈ x.1, r.name.size ≤ maxLen) ∧ x.2.length ≤ maxLen
def kszPr : Ctr := pur (fun args => (prA args 0, aI args 1)) (fun x => [.agg [.sl 3 (x.1.1.map encNode), .sl 1 (x.1.2.map encI)], .v (.int .i64 x.2)]) (fun x => wfM x.1 ∧ 0 ≤ x.2 ∧ x.2 ≤ 1048576)
  (fun _ x => .v (.int .i64 (szvPr x.1 x.2))) (fun _ _ => [])
section
noncomputable def cxSzPr : Cx := { P := Tryz.prog, tys := tys, C := [(98, kszStk), (99, kszI)], hty := tysOk, hC := COk.cons cszStk (COk.cons cszI (COk.nil _)) }
theorem cxSzPr_t : cxSzPr.tys = tys := rfl
theorem cxSzPr_c : cxSzPr.C = [(98, kszStk), (99, kszI)] := rfl
attribute [local go_sem] cxSzPr_t cxSzPr_c kszStk kszI
theorem cszPr : Cn Tryz.prog 41 kszPr := by
  refine Cn.pur Tryz.func41 (by kernel_rfl) rfl fun d x hx => ?_
  obtain ⟨⟨N, C⟩, left⟩ := x
  obtain ⟨⟨hN, hs, hC⟩, h0, h1⟩ := hx
  simp only at hN hs hC h0 h1 ⊢
  have hle := szvNode_le (N := N) h0
  refine Holds.go (c := cxSzPr) Tryz.func41 rfl Tryz.results41 Tryz.ntmps41 (by omega) (by simp) rfl ?_
  intro X0 w0
  (repeat' (first | refine WP.seq ?_ | refine WP.block ?_ | ((first | refine WP.region ?_ | refine WP.condW ?_ | refine WP.ret ?_ | refine WP.exit ?_ | refine WP.skip ?_); simp only [go_sem, tyAll, Nat.reduceAdd, Nat.reduceLT, Nat.reduceLeDiff, Nat.reduceEqDiff, Nat.reduceMul, Nat.reduceSub, Nat.reduceGT, reduceIte, Int.reduceNeg, Int.reduceToNat]) |  refine And.intro ?_ ?_ | intro _))
  all_goals first | omega | exact hs _ ‹_› | skip
  · rename_i h; rw [szvPr, if_pos h]
  · rename_i h g
    rw [szvPr, if_neg (Int.not_lt.2 h)]
    split
    · rfl
    · rename_i h5
      have h6 : ¬ (szvNode N left - (C.length : Int) < 0) := h5
      rw [if_neg h6] at g
      exact absurd g h6
  · rename_i h g
    rw [szvPr, if_neg (Int.not_lt.2 h)]
end
def ktoStk : Ctr := pur (fun args => stkA args 0) (fun N => [.agg [.sl 3 (N.map encNode)]]) (fun N => N.length ≤ 2097152) (fun d _ => .agg [.own d]) (fun d N => [(d, .sl 157 3 (N.map encNode))])
section
noncomputable def cxToStk : Cx := { P := Tryz.prog, tys := tys, C := [(148, ktoNodeS)], hty := tysOk, hC := COk.cons ctoNodeS (COk.nil _) }
theorem cxToStk_t : cxToStk.tys = tys := rfl
theorem cxToStk_c : cxToStk.C = [(148, ktoNodeS)] := rfl
attribute [local go_sem] cxToStk_t cxToStk_c ktoNodeS
theorem ctoStk : Cn Tryz.prog 100 ktoStk := by
  refine Cn.pur Tryz.func100 (by kernel_rfl) rfl fun d x hx => ?_
  refine Holds.go (c := cxToStk) Tryz.func100 rfl Tryz.results100 Tryz.ntmps100 (by omega) (by simp) rfl ?_
  intro X0 w0
  (repeat' (first | refine WP.seq ?_ | refine WP.block ?_ | ((first | refine WP.region ?_ | refine WP.condW ?_ | refine WP.ret ?_ | refine WP.exit ?_ | refine WP.skip ?_); simp only [go_sem, tyAll, Nat.reduceAdd, Nat.reduceLT, Nat.reduceLeDiff, Nat.reduceEqDiff, Nat.reduceMul, Nat.reduceSub, Nat.reduceGT, reduceIte, Int.reduceNeg, Int.reduceToNat]) |  refine And.intro ?_ ?_ | intro _))
  all_goals first | omega | exact ⟨_, _, _, rfl⟩ | exact ⟨_, _, rfl, _, _, rfl, rfl⟩ | skip
end
def ktoPr : Ctr := pur (fun args => prA args 0) (fun x => [.agg [.sl 3 (x.1.map encNode), .sl 1 (x.2.map encI)]]) (fun x => x.1.length ≤ 2097152 ∧ x.2.length ≤ 2097152) (fun d _ => .agg [.own d, .own (d + 1000)]) (fun d x => [(d, .sl 157 3 (x.1.map encNode)), (d + 1000, .sl 3 1 (x.2.map encI))])
section
noncomputable def cxToPr : Cx := { P := Tryz.prog, tys := tys, C := [(100, ktoStk), (101, k15)], hty := tysOk, hC := COk.cons ctoStk (COk.cons c15 (COk.nil _)) }
theorem cxToPr_t : cxToPr.tys = tys := rfl
theorem cxToPr_c : cxToPr.C = [(100, ktoStk), (101, k15)] := rfl
attribute [local go_sem] cxToPr_t cxToPr_c ktoStk k15
theorem ctoPr : Cn Tryz.prog 43 ktoPr := by
  refine Cn.pur Tryz.func43 (by kernel_rfl) rfl fun d x hx => ?_
  obtain ⟨N, C⟩ := x
  obtain ⟨hN, hC⟩ := hx
  simp only at hN hC ⊢
  refine Holds.go (c := cxToPr) Tryz.func43 rfl Tryz.results43 Tryz.ntmps43 (by omega) (by simp) rfl ?_
  intro X0 w0
  (repeat' (first | refine WP.seq ?_ | refine WP.block ?_ | ((first | refine WP.region ?_ | refine WP.condW ?_ | refine WP.ret ?_ | refine WP.exit ?_ | refine WP.skip ?_); simp only [go_sem, tyAll, Nat.reduceAdd, Nat.reduceLT, Nat.reduceLeDiff, Nat.reduceEqDiff, Nat.reduceMul, Nat.reduceSub, Nat.reduceGT, reduceIte, Int.reduceNeg, Int.reduceToNat]) |  refine And.intro ?_ ?_ | intro _))
  all_goals first | omega | exact ⟨_, _, _, rfl⟩ | exact ⟨_, _, rfl, _, _, rfl, rfl⟩ | (rw [if_neg (by omega)]) | skip
end
def keqStk : Ctr := pur (fun args => (stkA args 0, stkA args 1)) (fun x => [.agg [.sl 3 (x.1.map encNode)], .agg [.sl 3 (x.2.map encNode)]]) (fun x => x.1.length ≤ 4398046511104) (fun _ x => .v (.bool (decide (x.1 = x.2)))) (fun _ _ => [])
section
noncomputable def cxEqStk : Cx := { P := Tryz.prog, tys := tys, C := [(149, keqNodeS)], hty := tysOk, hC := COk.cons ceqNodeS (COk.nil _) }
theorem cxEqStk_t : cxEqStk.tys = tys := rfl
theorem cxEqStk_c : cxEqStk.C = [(149, keqNodeS)] := rfl
attribute [local go_sem] cxEqStk_t cxEqStk_c keqNodeS
theorem ceqStk : Cn Tryz.prog 102 keqStk := by
  refine Cn.pur Tryz.func102 (by kernel_rfl) rfl fun d x hx => ?_
  obtain ⟨N, M⟩ := x
  simp only at hx ⊢
  refine Holds.go (c := cxEqStk) Tryz.func102 rfl Tryz.results102 Tryz.ntmps102 (by omega) (by simp) rfl ?_
  intro X0 w0
  (repeat' (first | refine WP.seq ?_ | refine WP.block ?_ | ((first | refine WP.region ?_ | refine WP.condW ?_ | refine WP.ret ?_ | refine WP.exit ?_ | refine WP.skip ?_); simp only [go_sem, tyAll, Nat.reduceAdd, Nat.reduceLT, Nat.reduceLeDiff, Nat.reduceEqDiff, Nat.reduceMul, Nat.reduceSub, Nat.reduceGT, reduceIte, Int.reduceNeg, Int.reduceToNat]) |  refine And.intro ?_ ?_ | intro _))
  all_goals first | omega | simp_all | skip
end
def keqPr : Ctr := pur (fun args => (prA args 0, prA args 1)) (fun x => [.agg [.sl 3 (x.1.1.map encNode), .sl 1 (x.1.2.map encI)], .agg [.sl 3 (x.2.1.map encNode), .sl 1 (x.2.2.map encI)]]) (fun x => x.1.1.length ≤ 4398046511104 ∧ x.1.2.length ≤ 4398046511104)
  (fun _ x => .v (.bool (decide (x.1 = x.2)))) (fun _ _ => [])
section
noncomputable def cxEqPr : Cx := { P := Tryz.prog, tys := tys, C := [(102, keqStk), (103, k17)], hty := tysOk, hC := COk.cons ceqStk (COk.cons c17 (COk.nil _)) }
theorem cxEqPr_t : cxEqPr.tys = tys := rfl
theorem cxEqPr_c : cxEqPr.C = [(102, keqStk), (103, k17)] := rfl
attribute [local go_sem] cxEqPr_t cxEqPr_c keqStk k17
theorem ceqPr : Cn Tryz.prog 44 keqPr := by
  refine Cn.pur Tryz.func44 (by kernel_rfl) rfl fun d x hx => ?_
  obtain ⟨⟨N, C⟩, ⟨M, D⟩⟩ := x
  simp only at hx ⊢
  refine Holds.go (c := cxEqPr) Tryz.func44 rfl Tryz.results44 Tryz.ntmps44 (by omega) (by simp) rfl ?_
  intro X0 w0
  (repeat' (first | refine WP.seq ?_ | refine WP.block ?_ | ((first | refine WP.region ?_ | refine WP.condW ?_ | refine WP.ret ?_ | refine WP.exit ?_ | refine WP.skip ?_); simp only [go_sem, tyAll, Nat.reduceAdd, Nat.reduceLT, Nat.reduceLeDiff, Nat.reduceEqDiff, Nat.reduceMul, Nat.reduceSub, Nat.reduceGT, reduceIte, Int.reduceNeg, Int.reduceToNat]) |  refine And.intro ?_ ?_ | intro _))
  all_goals first | omega | simp_all | skip
end
end
section
open Go.Vc
set_option linter.unusedSimpArgs false
set_option linter.unusedVariables false
set_option maxHeartbeats 1000000
set_option maxRecDepth 10000
attribute [local irreducible] Go.Vc.WP
attribute [local go_sem] cx0_t cx0_c
attribute [local go_sem] isV_Node isV_It isV_Entry decNode_enc decFrame_enc oneFrame_enc stkA oneFrame_ab oneNode_abc decI_enc prA decEntry_enc
theorem ba_assoc (a b c : ByteArray) : a ++ b ++ c = a ++ (b ++ c) := by
  apply ByteArray.ext
  simp
/-- an entry's line -/
def lineT (e : Entry) : ByteArray := e.stack ++ (⟨#[32]⟩ ++ (bts (fmtL e.count.toNat) ++ ⟨#[10]⟩))
/-- the lines of the first k -/
def foldT (L : List Entry) : Nat → ByteArray
  | 0 => ⟨#[]⟩
  | k + 1 => foldT L k ++ (match L[k]? with | some e => lineT e | none => ⟨#[]⟩)
theorem foldT_succ {L : List Entry} {k : Nat} (h : k < L.length) : foldT L (k + 1) = foldT L k ++ lineT L[k] := by
  rw [foldT, List.getElem?_eq_getElem h]
theorem lineT_size {e : Entry} (h1 : e.stack.size ≤ 50331648) (h2 : 0 < e.count) (h3 : e.count ≤ 1000000000000) : (lineT e).size ≤ 50331668 ∧ (bts (fmtL e.count.toNat)).size ≤ 16 := by
  have h4 : (bts (fmtL e.count.toNat)).size ≤ 16 := by
    rw [bts_size]
    unfold fmtL
    split
    · simp
    · exact decB_len 16 _ (by omega)
  refine ⟨?_, h4⟩
  unfold lineT
  simp only [ByteArray.size_append]
  have e1 : ByteArray.size ⟨#[32]⟩ = 1 := rfl
  have e2 : ByteArray.size ⟨#[10]⟩ = 1 := rfl
  omega
theorem foldT_size {L : List Entry} (h : ∀ e ∈ L, (lineT e).size ≤ 50331668) : ∀ k, (foldT L k).size ≤ k * 50331668
  | 0 => by have : (foldT L 0).size = 0 := rfl; omega
  | k + 1 => by
    have ih := foldT_size h k
    rw [foldT, ByteArray.size_append]
    split
    · rename_i e he
      have := h e (List.mem_of_getElem? he)
      omega
    · have : ByteArray.size ⟨#[]⟩ = 0 := rfl
      omega
def kFold : Ctr := pur (fun args => prA args 0) (fun x => [.agg [.sl 3 (x.1.map encNode), .sl 1 (x.2.map encI)]]) (fun x => (x.1.length ≤ 2097152 ∧ ∀ n ∈ x.1, n.name.size ≤ 2097152) ∧ x.2.length ≤ 2097152) (fun _ x => .v (.string (foldT (entriesOf x.1 x.2) (entriesOf x.1 x.2).length))) (fun _ _ => [])
theorem ent_bounds {N : List Node} {C : List Int} (hN : N.length ≤ 2097152) : ∀ e ∈ entriesOf N C, (lineT e).size ≤ 50331668 ∧ (bts (fmtL e.count.toNat)).size ≤ 16 ∧ e.stack.size ≤ 25165824 ∧ 0 < e.count ∧ e.count ≤ 1000000000000 := fun e he => by
  obtain ⟨_, k, hk, hs, _, h2, h3⟩ := entriesOf_mem he
  have h1 := entriesOf_size he
  obtain ⟨h4, h5⟩ := lineT_size (e := e) (by omega) h2 h3
  exact ⟨h4, h5, by omega, h2, h3⟩
section
noncomputable def cxFdI : Cx := { P := Tryz.prog, tys := tys, C := [(57, kEnt), (75, kFmt)], hty := tysOk, hC := COk.cons cEntI (COk.cons cFmtI (COk.nil _)) }
theorem cxFdI_t : cxFdI.tys = tys := rfl
theorem cxFdI_c : cxFdI.C = [(57, kEnt), (75, kFmt)] := rfl
attribute [local go_sem] cxFdI_t cxFdI_c kEnt kFmt
theorem cFoldI : Cn Tryz.prog 23 kFold := by
  refine Cn.pur Tryz.func23 (by kernel_rfl) rfl fun d x hx => ?_
  obtain ⟨N, C⟩ := x
  obtain ⟨⟨hN, hs⟩, hC⟩ := hx
  simp only at hN hs hC ⊢
  have hlen := entriesOf_len N C
  have hb := ent_bounds (C := C) hN
  refine Holds.go (c := cxFdI) Tryz.func23 rfl Tryz.results23 Tryz.ntmps23 (by omega) (by simp) rfl ?_
  intro X0 w0
  (repeat' (first | refine WP.seq ?_ | refine WP.block ?_ | ((first | refine WP.region ?_ | refine WP.condW ?_ | refine WP.ret ?_ | refine WP.exit ?_ | refine WP.skip ?_); simp only [go_sem, tyAll, Nat.reduceAdd, Nat.reduceLT, Nat.reduceLeDiff, Nat.reduceEqDiff, Nat.reduceMul, Nat.reduceSub, Nat.reduceGT, reduceIte, Int.reduceNeg, Int.reduceToNat]) | ((first | refine WP.drawW 10 (by decide +kernel) (by kernel_rfl) ?_); simp only [go_sem, tyAll, Nat.reduceAdd, Nat.reduceLT, Nat.reduceLeDiff, Nat.reduceEqDiff, Nat.reduceMul, Nat.reduceSub, Nat.reduceGT, reduceIte, Int.reduceNeg, Int.reduceToNat]) |  refine And.intro ?_ ?_ | intro _))
  all_goals first | omega | (simp only; omega) | exact Nat.le_trans (hs _ ‹_›) (by omega) | exact ⟨_, _, _, rfl⟩ | skip
  refine WP.loop (fun k : Nat => ⟨[(3, .v (.string (foldT (entriesOf N C) k))), (7, .own 7), (8, .v (.int .i64 (entriesOf N C).length)), (9, .v (.int .i64 k))], [(7, .sl 54 2 ((entriesOf N C).map encEntry))]⟩) (fun k => k ≤ (entriesOf N C).length) (fun k => (entriesOf N C).length - k) 0 (by simp) ?_ ?_
  · (simp only [go_sem, tyAll, Nat.reduceAdd, Nat.reduceLT, Nat.reduceLeDiff, Nat.reduceEqDiff, Nat.reduceMul, Nat.reduceSub, Nat.reduceGT, reduceIte, Int.reduceNeg, Int.reduceToNat] <;> (first | rfl | exact ⟨rfl, rfl⟩ | exact ⟨rfl, rfl, rfl⟩ | exact ⟨rfl, rfl, rfl, rfl⟩ | exact ⟨rfl, rfl, rfl, rfl, rfl⟩ | exact ⟨⟨rfl, rfl⟩, rfl⟩ | simp))
  intro k hk
  have hsz := foldT_size (L := entriesOf N C) (fun e he => (hb e he).1) k
  have s1 : ByteArray.size ⟨#[32]⟩ = 1 := rfl
  have s2 : ByteArray.size ⟨#[10]⟩ = 1 := rfl
  have s3 : (#[32] : Array UInt8).size = 1 := rfl
  have s4 : (#[10] : Array UInt8).size = 1 := rfl
  by_cases hlt : k < (entriesOf N C).length
  · have hli : (k : Int) < (entriesOf N C).length := by omega
    have h1 := rowAt_map encEntry (entriesOf N C) k hlt
    obtain ⟨b1, b2, b3, b4, b5⟩ := hb _ (List.getElem_mem hlt)
    have hsu := foldT_succ hlt
    have hkb : k * 50331668 ≤ 2097152 * 50331668 := Nat.mul_le_mul_right _ (by omega)
    (repeat' (first | refine WP.seq ?_ | refine WP.block ?_ | ((first | refine WP.region ?_ | refine WP.condW ?_ | refine WP.ret ?_ | refine WP.exit ?_ | refine WP.skip ?_); simp only [go_sem, hli, h1, encEntry, tyAll, Nat.reduceAdd, Nat.reduceLT, Nat.reduceLeDiff, Nat.reduceEqDiff, Nat.reduceMul, Nat.reduceSub, Nat.reduceGT, reduceIte, Int.reduceNeg, Int.reduceToNat]) | ((first | refine WP.drawW 10 (by decide +kernel) (by kernel_rfl) ?_); simp only [go_sem, hli, h1, encEntry, tyAll, Nat.reduceAdd, Nat.reduceLT, Nat.reduceLeDiff, Nat.reduceEqDiff, Nat.reduceMul, Nat.reduceSub, Nat.reduceGT, reduceIte, Int.reduceNeg, Int.reduceToNat]) |  refine And.intro ?_ ?_ | intro _))
    all_goals first | omega | exact ⟨_, _, _, rfl⟩ | (simp only [ByteArray.size_append]; omega) | skip
    exact ⟨k + 1, by omega, by omega, by simp only [hsu, lineT, ba_assoc], by (first | rfl | exact ⟨rfl, rfl⟩ | exact ⟨rfl, rfl, rfl⟩ | exact ⟨rfl, rfl, rfl, rfl⟩ | exact ⟨rfl, rfl, rfl, rfl, rfl⟩ | exact ⟨⟨rfl, rfl⟩, rfl⟩ | simp)⟩
  · have hge : ¬ (k : Int) < (entriesOf N C).length := by omega
    (repeat' (first | refine WP.seq ?_ | refine WP.block ?_ | ((first | refine WP.region ?_ | refine WP.condW ?_ | refine WP.ret ?_ | refine WP.exit ?_ | refine WP.skip ?_); simp only [go_sem, hge, tyAll, Nat.reduceAdd, Nat.reduceLT, Nat.reduceLeDiff, Nat.reduceEqDiff, Nat.reduceMul, Nat.reduceSub, Nat.reduceGT, reduceIte, Int.reduceNeg, Int.reduceToNat]) | ((first | refine WP.drawW 10 (by decide +kernel) (by kernel_rfl) ?_); simp only [go_sem, hge, tyAll, Nat.reduceAdd, Nat.reduceLT, Nat.reduceLeDiff, Nat.reduceEqDiff, Nat.reduceMul, Nat.reduceSub, Nat.reduceGT, reduceIte, Int.reduceNeg, Int.reduceToNat]) |  refine And.intro ?_ ?_ | intro _))
    all_goals first | omega | skip
    rw [show k = (entriesOf N C).length by omega]
end
section
noncomputable def cxFdS : Cx := { P := Tryz.prog, tys := tys, C := [(35, kEnt), (146, kFmt)], hty := tysOk, hC := COk.cons cEntS (COk.cons cFmtS (COk.nil _)) }
theorem cxFdS_t : cxFdS.tys = tys := rfl
theorem cxFdS_c : cxFdS.C = [(35, kEnt), (146, kFmt)] := rfl
attribute [local go_sem] cxFdS_t cxFdS_c kEnt kFmt
end
section
attribute [local go_sem] kszPr ktoPr keqPr kFold
end
end
end Go.Proofs.YtklcphbgaeiegaaGreatDoor
/-
  DERIVED. Plain lists: a text of entries, line by line, and the lines in the other order.
-/
namespace Go.Proofs.YtklcphbgaeiegaaGreatDoor
set_option linter.unusedVariables false
open Go.Pl
theorem textL_app : ∀ A B : List Entry, textL (A ++ B) = textL A ++ textL B
  | [], B => rfl
  | e :: A, B => by rw [List.cons_append, textL, textL_app A B, textL]; simp
theorem textL_one (e : Entry) : textL [e] = lineL e ++ [10] := rfl
theorem bts_list_of (l : List UInt8) : (bts l).data.toList = l := by simp [bts]
theorem lineT_eq (e : Entry) : lineT e = bts (textL [e]) := by
  apply bts_ext
  rw [textL_one]
  unfold lineT lineL
  simp [bts]
theorem foldT_text {E : List Entry} : ∀ k, k ≤ E.length → foldT E k = bts (textL (E.take k))
  | 0, _ => rfl
  | k + 1, h => by
    rw [foldT_succ h, foldT_text k (by omega), List.take_succ_eq_append_getElem h, textL_app, lineT_eq]
    apply bts_ext
    simp [bts]
/-- where line j begins -/
def offL (E : List Entry) (j : Nat) : Nat := (textL (E.take j)).length
/-- the first j lines in the other order -/
def revL (E : List Entry) (j : Nat) : List UInt8 := textL (E.take j).reverse
theorem text_split {E : List Entry} {j : Nat} (h : j < E.length) : textL E = textL (E.take j) ++ (lineL E[j] ++ 10 :: textL (E.drop (j + 1))) := by
  have h1 : E = E.take j ++ (E[j] :: E.drop (j + 1)) := by rw [← List.drop_eq_getElem_cons h, List.take_append_drop]
  conv => lhs; rw [h1, textL_app, textL]
theorem off_succ {E : List Entry} {j : Nat} (h : j < E.length) : offL E (j + 1) = offL E j + (lineL E[j]).length + 1 := by
  unfold offL
  rw [List.take_succ_eq_append_getElem h, textL_app, textL_one]
  simp; omega
theorem off_end (E : List Entry) : offL E E.length = (textL E).length := by unfold offL; rw [List.take_length]
theorem off_le {E : List Entry} {j : Nat} (h : j < E.length) : offL E j + (lineL E[j]).length + 1 ≤ (textL E).length := by
  have h1 := congrArg List.length (text_split h)
  simp only [List.length_append, List.length_cons] at h1
  unfold offL; omega
theorem text_in {E : List Entry} (hc : ∀ e ∈ E, canW e) {j i : Nat} (h : j < E.length) (hi : i < (lineL E[j]).length) (hb : offL E j + i < (textL E).length) : (textL E)[offL E j + i] ≠ 10 := by
  have h1 : (textL E)[offL E j + i]? = some (lineL E[j])[i] := by
    rw [text_split h]
    unfold offL
    rw [List.getElem?_append_right (by omega), List.getElem?_append_left (by omega), Nat.add_sub_cancel_left, List.getElem?_eq_getElem hi]
  rw [List.getElem?_eq_getElem hb] at h1
  rw [Option.some.inj h1]
  intro he
  exact line_no10 (hc _ (List.getElem_mem h)) (by rw [← he]; exact List.getElem_mem _)
theorem text_nl {E : List Entry} {j : Nat} (h : j < E.length) (hb : offL E j + (lineL E[j]).length < (textL E).length) : (textL E)[offL E j + (lineL E[j]).length] = 10 := by
  have h1 : (textL E)[offL E j + (lineL E[j]).length]? = some 10 := by
    rw [text_split h]
    unfold offL
    rw [List.getElem?_append_right (by omega), List.getElem?_append_right (by omega)]
    simp
  rw [List.getElem?_eq_getElem hb] at h1
  exact Option.some.inj h1
theorem text_seg {E : List Entry} {j : Nat} (h : j < E.length) : seg (textL E) (offL E j) (offL E j + (lineL E[j]).length) = lineL E[j] := by
  rw [text_split h]
  unfold seg offL
  rw [List.drop_append_of_le_length (by omega), List.drop_length, List.nil_append, Nat.add_sub_cancel_left, List.take_append_of_le_length (by omega), List.take_length]
theorem text_seg' {E : List Entry} {j : Nat} (h : j < E.length) : seg (textL E) (offL E j) (offL E j + (lineL E[j]).length + 1) = lineL E[j] ++ [10] := by
  rw [text_split h]
  unfold seg offL
  rw [List.drop_append_of_le_length (by omega), List.drop_length, List.nil_append, show (textL (E.take j)).length + (lineL E[j]).length + 1 - (textL (E.take j)).length = (lineL E[j] ++ [10]).length by simp; omega]
  rw [show lineL E[j] ++ 10 :: textL (E.drop (j + 1)) = (lineL E[j] ++ [10]) ++ textL (E.drop (j + 1)) by simp]
  rw [List.take_append_of_le_length (by omega), List.take_length]
theorem rev_succ {E : List Entry} {j : Nat} (h : j < E.length) : bts (lineL E[j] ++ [10]) ++ bts (revL E j) = bts (revL E (j + 1)) := by
  apply bts_ext
  unfold revL
  rw [List.take_succ_eq_append_getElem h, List.reverse_append, List.reverse_singleton, List.singleton_append, textL]
  simp [bts]
theorem rev_len (E : List Entry) : ∀ j, j ≤ E.length → (revL E j).length = offL E j
  | 0, _ => rfl
  | j + 1, h => by
    have h1 := congrArg (fun b : ByteArray => b.data.toList.length) (rev_succ (E := E) (j := j) h)
    simp [bts] at h1
    rw [off_succ h, ← rev_len E j (by omega)]
    omega
theorem rev_all (E : List Entry) : revL E E.length = textL E.reverse := by unfold revL; rw [List.take_length]
/-- a drawn profile's entries can be written and read -/
theorem joinL_no {c d : UInt8} (hcd : d ≠ c) : ∀ {L : List (List UInt8)}, (∀ x ∈ L, d ∉ x) → d ∉ joinL c L
  | [], _ => by simp [joinL]
  | [x], h => by rw [joinL]; exact h x (by simp)
  | x :: y :: l, h => by
    rw [joinL, List.mem_append, List.mem_cons]
    rintro (h1 | h1 | h1)
    · exact h x (by simp) h1
    · exact hcd h1
    · exact joinL_no hcd (fun z hz => h z (List.mem_cons_of_mem _ hz)) h1
theorem frTxt_no10 {f : Frame} (h : frOk f = true) : (10 : UInt8) ∉ frTxt f := by
  intro hc
  have h1 := nameOk_letters (frOk_iff.1 h).1
  unfold frTxt at hc
  rw [List.mem_append, List.mem_cons] at hc
  rcases hc with hc | hc | hc
  · have := h1.1 _ hc
    revert this; decide
  · revert hc; decide
  · exact dig_no _ 10 (by decide) hc
theorem fmtF_no10 (L : List Frame) : (10 : UInt8) ∉ (fmtF L).data.toList := by
  unfold fmtF
  split
  · rename_i h
    rw [bts_list_of]
    refine joinL_no (by decide) fun x hx => ?_
    obtain ⟨f, hf, rfl⟩ := List.mem_map.1 hx
    exact frTxt_no10 (List.all_eq_true.1 h f hf)
  · intro hc; cases hc
theorem drp_can {P : List Node × List Int} (h : DrP P 7) : ∀ e ∈ entriesOf P.1 P.2, canW e ∧ 0 < e.count ∧ e.stack.size ≤ 48 := fun e he => by
  obtain ⟨_, g1, _, _, _⟩ := ent_frs he
  obtain ⟨_, k, _, _, _, g2, _⟩ := entriesOf_mem he
  have g3 := (h.ents e he).len
  have g4 := fmtF_size (frsE e)
  have g5 := sumE_entries P.1 P.2
  have g6 := h.total
  have g7 : e.count ≤ sumE (entriesOf P.1 P.2) := by
    unfold sumE
    have key : ∀ E : List Entry, (∀ x ∈ E, 0 < x.count) → e ∈ E → e.count ≤ (E.map (·.count)).sum := by
      intro E
      induction E with
      | nil => intro _ h; cases h
      | cons x E ih =>
        intro hp hm
        have hs : ∀ F : List Entry, (∀ x ∈ F, 0 < x.count) → 0 ≤ (F.map (·.count)).sum := by
          intro F
          induction F with
          | nil => intro _; simp
          | cons y F ihF =>
            intro hq
            have := hq y List.mem_cons_self
            have := ihF fun z hz => hq z (List.mem_cons_of_mem _ hz)
            simp only [List.map_cons, List.sum_cons]; omega
        have h0 := hp x List.mem_cons_self
        have h1 := hs E fun z hz => hp z (List.mem_cons_of_mem _ hz)
        simp only [List.map_cons, List.sum_cons]
        rcases List.mem_cons.1 hm with rfl | hm
        · omega
        · have := ih (fun z hz => hp z (List.mem_cons_of_mem _ hz)) hm
          omega
    exact key _ (fun x hx => by obtain ⟨_, k, _, _, _, hh, _⟩ := entriesOf_mem hx; exact hh) he
  rw [g1] at g4
  refine ⟨⟨?_, by omega, by omega⟩, g2, by omega⟩
  rw [← g1]
  exact fmtF_no10 _
theorem line_len {e : Entry} (h : e.stack.size ≤ 48) (h2 : 0 < e.count) (h3 : e.count ≤ 1000000000) : (lineL e).length ≤ 65 := by
  have h4 := (lineT_size (e := e) (by omega) h2 (by omega)).2
  rw [bts_size] at h4
  unfold lineL
  simp; omega
theorem text_len : ∀ {E : List Entry}, (∀ e ∈ E, (lineL e).length ≤ 65) → (textL E).length ≤ 66 * E.length
  | [], _ => by simp [textL]
  | e :: E, h => by
    have h1 := text_len (E := E) fun x hx => h x (List.mem_cons_of_mem _ hx)
    have h2 := h e List.mem_cons_self
    rw [textL]; simp; omega
end Go.Proofs.YtklcphbgaeiegaaGreatDoor

/-
  DERIVED. How large the profile of entries becomes.
-/
namespace Go.Proofs.YtklcphbgaeiegaaGreatDoor
set_option linter.unusedVariables false
theorem profileOf_len {L : List Entry} (h : wfE L) : ((profileOf L).getD ([], [])).1.length ≤ 3298534883328 ∧ ((profileOf L).getD ([], [])).2.length ≤ 3298534883328 := by
  cases hp : profileOf L with
  | none => simp
  | some t =>
    have h1 := profGo_len (B := 3145728) L ([], []) 0 (fun e he f hf => by
      have h2 := (parseF_small hf).1
      have h3 := h.2 e he
      omega) (by simp) (by simp) t hp
    have h4 := h.1
    have h5 : 3145728 * L.length ≤ 3145728 * 1048576 := Nat.mul_le_mul_left _ h4
    simp only [Option.getD_some]
    omega
theorem profGo_names : ∀ (L : List Entry) (s : List Node × List Int), (∀ n ∈ s.1, n.name.size ≤ 8) → ∀ t, profGo L s = some t → ∀ n ∈ t.1, n.name.size ≤ 8
  | [], s, h, t, ht => by rw [profGo] at ht; cases ht; exact h
  | e :: L, s, h, t, ht => by
    cases hp : parseF e.stack with
    | none => rw [profGo_no hp] at ht; cases ht
    | some f =>
      cases hb : (addStack s.1 s.2 f e.count).2 with
      | false => rw [profGo_bad hp hb] at ht; cases ht
      | true => rw [profGo_ok hp hb] at ht; exact profGo_names L _ (addStack_names h (parseF_small hp).2) t ht
theorem profileOf_names (L : List Entry) : ∀ n ∈ ((profileOf L).getD ([], [])).1, n.name.size ≤ 8 := by
  cases hp : profileOf L with
  | none => simp
  | some t => exact profGo_names L ([], []) (by simp) t hp
end Go.Proofs.YtklcphbgaeiegaaGreatDoor

namespace Go.Proofs.YtklcphbgaeiegaaGreatDoor
open Go.Vc
attribute [local go_sem] St.runR St.runW St.stepV offV St.step St.stepU St.stepG mkCond guardB St.prK St.pr St.prLen St.eff St.callE St.callD St.callF St.callL aI aB aS aR aC St.isM St.argL Ctr.pure Ctr.lend Ctr.move Ctr.isL Ctr.wri pur len lentBy St.lentV St.lent1 nthS argsR restOf obsR pairs swapL unObs backL St.resL erL SV.ren1 SV.up SV.up2 Ob.up St.fzL cellIds partIds St.intoRow SV.ownId St.fz SV.fz1 St.prep St.mvL St.mv SV.re1 rnOk St.prEq vals eqCells scEq Value.kd St.prStr St.prCut cutR St.bnd St.prMin St.bld isShift outL retL outJ oR oC St.ev St.get St.put St.new St.kill SV.kill SV.kill1 Ob.kill St.app St.wrt St.rowsOf St.res St.killL lk er argsL SV.strip SV.need SV.share SV.share1 SV.owns SV.owns1 SV.owns2 SV.good SV.good1 SV.rok SV.rok1 SV.rok2 SV.isV SV.isV2 nodupN SV.cells SV.one SV.pur Ob.pb partsIn rowsIn splice cellsAt dstOk scal2 scal1 thenK blockK retK outK outs okC okL okA okT nilC nilL nilA nilT keepC keepL keepA keepT St.runG St.dltK St.least St.clean St.final St.hide offK badS badO SV.refs SV.leaf SV.leaf2 Ob.refs dlOk fpAt Go.Vc.cover tups SV.ofAgg St.out outC subL St.has rng wr Value.oneCell' Option.isSome_some Option.isSome_none List.nil_append Bool.false_eq_true List.map_cons List.map_nil List.all_cons List.all_nil List.length_cons List.length_nil List.drop_zero List.drop_succ_cons List.take_succ_cons List.take_zero List.drop_nil List.take_nil List.getElem?_cons_zero List.getElem?_cons_succ List.getElem?_nil List.cons_append List.nil_append List.append_nil List.append_assoc List.flatMap_cons List.flatMap_nil List.contains_cons List.contains_nil List.set_cons_zero List.set_cons_succ List.getElem?_toArray Option.getD_some Option.getD_none Option.map_some Option.map_none Option.bind_some Option.some.injEq Prod.mk.injEq if_true if_false true_and and_true and_self and_false false_and Bool.and_false Bool.false_and Bool.or_true Bool.true_or Bool.or_false Bool.false_or ne_eq not_true_eq_false not_false_eq_true decide_true decide_false List.mem_cons List.not_mem_nil List.filter_cons List.filter_nil List.any_cons List.any_nil List.isEmpty_nil List.isEmpty_cons Option.getD_none or_false false_or true_or or_true forall_eq_or_imp forall_eq reduceCtorEq exists_eq exists_eq' exists_eq_left' exists_eq_left exists_eq_right exists_eq_right' imp_self implies_true Bool.and_true Bool.true_and Bool.and_self beq_self_eq_true List.replicate_succ List.replicate_zero forall_const false_implies pickB_or pickB_and beqT beqF Int.toNat_natCast List.length_map List.length_replicate ge_iff_le gt_iff_lt decide_eq_true_eq decide_eq_false_iff_not Bool.and_eq_true Bool.or_eq_true Bool.not_eq_true' Bool.not_eq_false' condG List.toList_toArray Bool.or_eq_false_iff Bool.and_eq_false_iff Int.not_lt Int.not_le beq_iff_eq beq_eq_false_iff_ne bne_iff_ne bne_eq_false_iff_eq ne_eq Bool.not_true Bool.not_false exists_and_left
section
open Go.Vc
set_option linter.unusedSimpArgs false
set_option linter.unusedVariables false
set_option maxHeartbeats 1000000
set_option maxRecDepth 10000
attribute [local irreducible] Go.Vc.WP
attribute [local go_sem] cx0_t cx0_c
open Go.Pl
attribute [local go_sem] isV_Node isV_It isV_Entry decNode_enc decFrame_enc oneFrame_enc stkA oneFrame_ab oneNode_abc decI_enc decS_enc aU prA encI_inj decU_enc decEntry_enc
def kPFZ : Ctr := pur (fun args => aS args 0) (fun s => [.v (.string s)]) (fun s => s.size ≤ 1048576) (fun _ s => .tup [.agg [.sl 3 (((parseFold s).getD ([], [])).1.map encNode), .sl 1 (((parseFold s).getD ([], [])).2.map encI)], .v (.bool (parseFold s).isSome)]) (fun _ _ => [])
theorem cPFZ : Cn Tryz.prog 24 kPFZ := Cn.frz cPFI (fun d b id e s rows h => by
    have hm := lk_mem h
    simp only [List.mem_cons, List.not_mem_nil, or_false, Prod.mk.injEq, Ob.sl.injEq] at hm
    rcases hm with ⟨_, _, _, rfl⟩ | ⟨_, _, _, rfl⟩
    · exact allV_Node _
    · exact allV_I _) (fun d b => by simp [SV.up, SV.up2, fz1m, lk])
section
noncomputable def cxLFT : Cx := { P := Tryz.prog, tys := tys, C := [(12, kBig), (13, kDrawZ), (23, kFold), (24, kPFZ), (25, kFolded), (26, kSame)], hty := tysOk, hC := COk.cons cBig (COk.cons cDrawZ (COk.cons cFoldI (COk.cons cPFZ (COk.cons cFoldedI (COk.cons cSameI (COk.nil _)))))) }
theorem cxLFT_t : cxLFT.tys = tys := rfl
theorem cxLFT_c : cxLFT.C = [(12, kBig), (13, kDrawZ), (23, kFold), (24, kPFZ), (25, kFolded), (26, kSame)] := rfl
attribute [local go_sem] cxLFT_t cxLFT_c kBig kDrawZ kFold kPFZ kFolded kSame
theorem lawFText (b : List Int) (hb : b.length ≤ maxLen) (hz : ∀ z ∈ b, IntKind.u8.min ≤ z ∧ z ≤ IntKind.u8.max) : Holds Tryz.prog 5 [.sl 1 (b.map encU)] (.v (.bool true)) [] := by
  have hm : maxLen = 9223372036854775807 := rfl
  have hz' : ∀ z ∈ b, 0 ≤ z ∧ z ≤ 255 := fun z h => hz z h
  refine Holds.go (c := cxLFT) Tryz.func5 rfl Tryz.results5 Tryz.ntmps5 (by omega) (by simp) rfl ?_
  intro X0 w0
  by_cases hbig : 1048576 < (b.length : Int)
  · (repeat' (first | refine WP.seq ?_ | refine WP.block ?_ | ((first | refine WP.region ?_ | refine WP.condW ?_ | refine WP.ret ?_ | refine WP.exit ?_ | refine WP.skip ?_); simp only [go_sem, hbig, tyAll, Nat.reduceAdd, Nat.reduceLT, Nat.reduceLeDiff, Nat.reduceEqDiff, Nat.reduceMul, Nat.reduceSub, Nat.reduceGT, reduceIte, Int.reduceNeg, Int.reduceToNat]) |  refine And.intro ?_ ?_ | intro _))
    all_goals first | omega | skip
    all_goals trace_state
  have hb1 : b.length ≤ 1048576 := by omega
  have hdr := drA_ok hb1 hz'
  have hnm := drp_names hdr
  obtain ⟨hl1, hl2⟩ := drp_lens hdr
  have hcan := drp_can hdr
  have hlenE := entriesOf_len (drA b).1 (drA b).2
  have hfl : ∀ e ∈ entriesOf (drA b).1 (drA b).2, ∀ f, parseF e.stack = some f → f.length ≤ 4 := fun e he f hf => by
    have h1 := (ent_frs he).2.2.2.2
    rw [h1] at hf; cases hf
    exact (hdr.ents e he).len
  obtain ⟨t1, p1, o1, q1⟩ := self_back hdr.ok
  obtain ⟨t2, p2, o2, q2⟩ := perm_back (N := (drA b).1) (C := (drA b).2) (List.reverse_perm _)
  have s1 : sameP (drA b) t1 = true := by unfold sameP; rw [hdr.ok, o1, q1]; simp
  have s2 : sameP (drA b) t2 = true := by unfold sameP; rw [hdr.ok, o2, q2]; simp
  have z1 := profGo_len (B := 4) (entriesOf (drA b).1 (drA b).2) ([], []) 0 hfl (by simp) (by simp) t1 p1
  have z2 := profGo_len (B := 4) (entriesOf (drA b).1 (drA b).2).reverse ([], []) 0 (fun e he => hfl e (List.mem_reverse.1 he)) (by simp) (by simp) t2 p2
  rw [List.length_reverse] at z2
  have n1 := profileOf_names (entriesOf (drA b).1 (drA b).2)
  have n2 := profileOf_names (entriesOf (drA b).1 (drA b).2).reverse
  rw [p1] at n1
  rw [p2] at n2
  simp only [Option.getD_some] at n1 n2
  have tx := foldT_text (E := entriesOf (drA b).1 (drA b).2) _ (Nat.le_refl _)
  rw [List.take_length] at tx
  have pt1 := parse_text (E := entriesOf (drA b).1 (drA b).2) fun e he => (hcan e he).1
  have pt2 := parse_text (E := (entriesOf (drA b).1 (drA b).2).reverse) fun e he => (hcan e (List.mem_reverse.1 he)).1
  rw [p1] at pt1
  rw [p2, ← rev_all] at pt2
  have hbk : ∀ e ∈ entriesOf (drA b).1 (drA b).2, foldedOk (bts (lineL e)) = true ∧ foldedEntry (bts (lineL e)) = e := fun e he => line_back (hcan e he).1
  have hll : ∀ e ∈ entriesOf (drA b).1 (drA b).2, (lineL e).length ≤ 65 := fun e he => line_len (hcan e he).2.2 (hcan e he).2.1 (hcan e he).1.2.2
  have htl := text_len hll
  generalize eE : entriesOf (drA b).1 (drA b).2 = E at *
  generalize eA : drA b = A at *
  obtain ⟨N, C⟩ := A
  obtain ⟨N1, C1⟩ := t1
  obtain ⟨N2, C2⟩ := t2
  simp only at *
  generalize eS : textL E = S at *
  have hsz : (bts S).size = S.length := bts_size _
  have hdl : (bts S).data.toList = S := bts_list_of _
  (repeat' (first | refine WP.seq ?_ | refine WP.block ?_ | ((first | refine WP.region ?_ | refine WP.condW ?_ | refine WP.ret ?_ | refine WP.exit ?_ | refine WP.skip ?_); simp only [go_sem, hbig, eA, eE, tx, pt1, tyAll, Nat.reduceAdd, Nat.reduceLT, Nat.reduceLeDiff, Nat.reduceEqDiff, Nat.reduceMul, Nat.reduceSub, Nat.reduceGT, reduceIte, Int.reduceNeg, Int.reduceToNat]) |  refine And.intro ?_ ?_ | intro _))
  all_goals first | omega | (simp only; omega) | exact (hz' _ ‹_›).1 | exact (hz' _ ‹_›).2 | exact Nat.le_trans (hnm _ ‹_›) (by omega) | skip
  refine WP.loop (fun q : Nat × Nat => ⟨[(3, .ptr 3 0 0 0), (5, .v (.string (bts S))), (6, .ptr 6 0 0 0), (7, .v (.bool true)), (8, .v (.string (bts (revL E q.1)))), (9, .v (.int .i64 (offL E q.1 : Int))), (10, .v (.int .i64 (q.2 : Int)))],
    [(3, .box 29 [.sl 3 (N.map encNode), .sl 1 (C.map encI)]), (6, .box 29 [.sl 3 (N1.map encNode), .sl 1 (C1.map encI)])]⟩)
    (fun q => q.1 ≤ E.length ∧ offL E q.1 ≤ q.2 ∧ (∀ h : q.1 < E.length, q.2 ≤ offL E q.1 + (lineL E[q.1]).length) ∧ (q.1 = E.length → q.2 = S.length)) (fun q => S.length - q.2) (0, 0) ?_ ?_ ?_
  · refine ⟨by simp, by simp [offL, textL], fun h => by simp, fun h => ?_⟩
    simp only at h ⊢
    rw [← eS, ← off_end E, ← h]; simp [offL, textL]
  · (simp only [go_sem, tyAll, Nat.reduceAdd, Nat.reduceLT, Nat.reduceLeDiff, Nat.reduceEqDiff, Nat.reduceMul, Nat.reduceSub, Nat.reduceGT, reduceIte, Int.reduceNeg, Int.reduceToNat] <;> (first | rfl | exact ⟨rfl, rfl⟩ | exact ⟨rfl, rfl, rfl⟩ | exact ⟨rfl, rfl, rfl, rfl⟩ | exact ⟨rfl, rfl, rfl, rfl, rfl⟩ | exact ⟨⟨rfl, rfl⟩, rfl⟩ | simp))
  rintro ⟨j, k⟩ ⟨hj, ho, hin, hen⟩
  simp only at hj ho hin hen ⊢
  have hrl := rev_len E j hj
  by_cases hlt : k < S.length
  · have hli : (k : Int) < (bts S).size := by omega
    have hjl : j < E.length := by
      rcases Nat.lt_or_ge j E.length with h | h
      · exact h
      · have := hen (by omega); omega
    have hin := hin hjl
    have hg := ba_get (bts S) k (by omega)
    have hoe := off_le hjl
    rw [eS] at hoe
    have hext := seg_ext (bts S) (offL E j) k (by omega)
    have hext2 := seg_ext (bts S) (offL E j) (k + 1) (by omega)
    rw [hdl] at hext hext2
    by_cases hc : k = offL E j + (lineL E[j]).length
    · have hnl := text_nl hjl (by rw [eS]; omega)
      have hsg := text_seg hjl
      have hsg2 := text_seg' hjl
      have hrv := rev_succ hjl
      have hos := off_succ hjl
      obtain ⟨b1, b2⟩ := hbk _ (List.getElem_mem hjl)
      have hcp := (hcan _ (List.getElem_mem hjl)).2.1
      have hl65 := hll _ (List.getElem_mem hjl)
      rw [eS] at hsg hsg2
      rw [hc] at hext hext2
      rw [hsg] at hext
      rw [hsg2] at hext2
      rw [← hc] at hext hext2
      have hcc : ((bts S)[k]!.toNat : Int) = 10 := by
        have : (bts S)[k]! = 10 := by
          rw [hg]
          simp only [hdl, hc]
          simp only [eS] at hnl
          exact hnl
        rw [this]; rfl
      have hp1 : ¬ E[j].count < 1 := by omega
      (repeat' (first | refine WP.seq ?_ | refine WP.block ?_ | ((first | refine WP.region ?_ | refine WP.condW ?_ | refine WP.ret ?_ | refine WP.exit ?_ | refine WP.skip ?_); simp only [go_sem, hli, hcc, hext, hext2, hrv, b1, b2, hp1, encEntry, tyAll, Nat.reduceAdd, Nat.reduceLT, Nat.reduceLeDiff, Nat.reduceEqDiff, Nat.reduceMul, Nat.reduceSub, Nat.reduceGT, reduceIte, Int.reduceNeg, Int.reduceToNat]) |  refine And.intro ?_ ?_ | intro _))
      all_goals first | omega | (rw [bts_size]; omega) | (rw [show ((k : Int) + 1).toNat = k + 1 by omega, hext2, bts_size, bts_size, hrl]; simp only [List.length_append, List.length_cons, List.length_nil]; omega) | skip
      all_goals first | exact ⟨(j + 1, k + 1), ⟨by simp only; omega, by simp only; omega, fun h => by simp only; omega, fun h => by
        simp only at h ⊢
        have := off_end E
        rw [eS, ← h] at this
        omega⟩, by simp only; omega, by rw [hos, ← hc]; (first | rfl | exact ⟨rfl, rfl⟩ | exact ⟨rfl, rfl, rfl⟩ | exact ⟨rfl, rfl, rfl, rfl⟩ | exact ⟨rfl, rfl, rfl, rfl, rfl⟩ | exact ⟨⟨rfl, rfl⟩, rfl⟩ | simp); rw [hext2, hrv]⟩ | trace_state
    · have hcc : ¬ ((bts S)[k]!.toNat : Int) = 10 := by
        intro he
        have h1 : (bts S)[k]! = 10 := UInt8.toNat_inj.1 (by show (bts S)[k]!.toNat = 10; omega)
        have h2 := text_in (E := E) (j := j) (i := k - offL E j) (fun e he => (hcan e he).1) hjl (by omega) (by rw [eS]; omega)
        apply h2
        rw [hg] at h1
        simp only [hdl] at h1
        simp only [eS, show offL E j + (k - offL E j) = k by omega]
        exact h1
      (repeat' (first | refine WP.seq ?_ | refine WP.block ?_ | ((first | refine WP.region ?_ | refine WP.condW ?_ | refine WP.ret ?_ | refine WP.exit ?_ | refine WP.skip ?_); simp only [go_sem, hli, hcc, tyAll, Nat.reduceAdd, Nat.reduceLT, Nat.reduceLeDiff, Nat.reduceEqDiff, Nat.reduceMul, Nat.reduceSub, Nat.reduceGT, reduceIte, Int.reduceNeg, Int.reduceToNat]) |  refine And.intro ?_ ?_ | intro _))
      all_goals first | omega | skip
      all_goals first | exact ⟨(j, k + 1), ⟨hj, by simp only; omega, fun h => by simp only; omega, fun h => by simp only at h; omega⟩, by simp only; omega, by (first | rfl | exact ⟨rfl, rfl⟩ | exact ⟨rfl, rfl, rfl⟩ | exact ⟨rfl, rfl, rfl, rfl⟩ | exact ⟨rfl, rfl, rfl, rfl, rfl⟩ | exact ⟨⟨rfl, rfl⟩, rfl⟩ | simp)⟩ | trace_state
  · have hge : ¬ (k : Int) < (bts S).size := by omega
    have hje : j = E.length := by
      rcases Nat.lt_or_ge j E.length with h | h
      · have h1 := hin h
        have h2 := off_le h
        rw [eS] at h2; omega
      · omega
    have hoe := off_end E
    rw [eS] at hoe
    subst hje
    have hrs : ((bts (revL E E.length)).size : Int) = S.length := by rw [bts_size, hrl, hoe]
    have hrs2 : (bts (revL E E.length)).size ≤ 1048576 := by rw [bts_size, hrl, hoe]; omega
    have hlast : ((bts S).size : Int) = ((bts (revL E E.length)).size : Int) := by rw [hrs, hsz]
    (repeat' (first | refine WP.seq ?_ | refine WP.block ?_ | ((first | refine WP.region ?_ | refine WP.condW ?_ | refine WP.ret ?_ | refine WP.exit ?_ | refine WP.skip ?_); simp only [go_sem, hge, pt2, s1, s2, hlast, tyAll, Nat.reduceAdd, Nat.reduceLT, Nat.reduceLeDiff, Nat.reduceEqDiff, Nat.reduceMul, Nat.reduceSub, Nat.reduceGT, reduceIte, Int.reduceNeg, Int.reduceToNat]) |  refine And.intro ?_ ?_ | intro _))
    all_goals first | omega | (simp only; omega) | exact Nat.le_trans (hnm _ ‹_›) (by omega) | exact Nat.le_trans (n1 _ ‹_›) (by omega) | exact Nat.le_trans (n2 _ ‹_›) (by omega) | skip
    all_goals trace_state
end
end
end Go.Proofs.YtklcphbgaeiegaaGreatDoor
/-
  DERIVED. What is read of a struct, field by field, stands for what its fields stand for.
-/
namespace Go.Vc
open Go.RowKit Go.WideShapes Go.ChangeShapes Go.Deep
set_option linter.unusedVariables false
section
variable {H : Type} {enc : TypeId × Value → H} {P : Program} {w : World}
theorem Cells.append {r1 r2 : List SV} {c1 c2 : List Value} (h1 : Cells w r1 c1) (h2 : Cells w r2 c2) : Cells w (r1 ++ r2) (c1 ++ c2) := by
  refine ⟨by rw [List.length_append, List.length_append, h1.1, h2.1], fun k c u hc hu => ?_⟩
  rw [List.getElem?_append] at hc hu
  by_cases hk : k < r1.length
  · rw [if_pos hk] at hc
    rw [if_pos (by rw [← h1.1]; exact hk)] at hu
    exact h1.2 k c u hc hu
  · rw [if_neg hk] at hc
    rw [if_neg (by rw [← h1.1]; exact hk), ← h1.1] at hu
    exact h2.2 _ c u hc hu
theorem Dec.map {t : TypeId} {α β : Type} {e : α → List SV} {wf : α → Prop} {e' : β → List SV} {wf' : β → Prop} (hd : Dec H enc P w t e wf) (g : α → β) (he : ∀ a, e' (g a) = e a) (hw : ∀ a, wf a → wf' (g a)) : Dec H enc P w t e' wf' := by
  intro base sp held n cs y h
  obtain ⟨a, ha, hc⟩ := hd _ _ _ _ _ _ h
  exact ⟨g a, hw a ha, by rw [he]; exact hc⟩
theorem Dec.struct1 {t : TypeId} {f0 : Field} {k0 : Nat} {α : Type} {e : α → List SV} {wf : α → Prop} (ht : P.underlying t = some (.struct #[f0])) (o0 : f0.offset = 0) (h0 : P.cellsOf f0.type = k0) (hC : P.cellsOf t = k0) (hd : Dec H enc P w f0.type e wf) : Dec H enc P w t e wf := by
  intro base sp held n cs y h
  obtain ⟨y0, m, _, hl, g0⟩ := trod_struct1 ht h
  obtain ⟨a, ha, hc⟩ := hd _ _ _ _ _ _ g0
  rw [o0, h0, List.drop_zero, List.take_of_length_le (by omega)] at hc
  exact ⟨a, ha, hc⟩
theorem Dec.struct2 {t : TypeId} {f0 f1 : Field} {k0 k1 : Nat} {α β : Type} {e0 : α → List SV} {w0 : α → Prop} {e1 : β → List SV} {w1 : β → Prop} (ht : P.underlying t = some (.struct #[f0, f1])) (o0 : f0.offset = 0) (h0 : P.cellsOf f0.type = k0) (o1 : f1.offset = k0) (h1 : P.cellsOf f1.type = k1) (hC : P.cellsOf t = k0 + k1)
    (d0 : Dec H enc P w f0.type e0 w0) (d1 : Dec H enc P w f1.type e1 w1) : Dec H enc P w t (fun x : α × β => e0 x.1 ++ e1 x.2) (fun x => w0 x.1 ∧ w1 x.2) := by
  intro base sp held n cs y h
  obtain ⟨y0, y1, m, _, hl, g0, g1⟩ := trod_struct2 ht h
  obtain ⟨a, ha, hc⟩ := d0 _ _ _ _ _ _ g0
  obtain ⟨b, hb, hd⟩ := d1 _ _ _ _ _ _ g1
  rw [o0, h0, List.drop_zero] at hc
  rw [o1, h1, List.take_of_length_le (by rw [List.length_drop]; omega)] at hd
  refine ⟨(a, b), ⟨ha, hb⟩, ?_⟩
  have := hc.append hd
  rwa [List.take_append_drop] at this
theorem Dec.struct3 {t : TypeId} {f0 f1 f2 : Field} {k0 k1 k2 : Nat} {α β γ : Type} {e0 : α → List SV} {w0 : α → Prop} {e1 : β → List SV} {w1 : β → Prop} {e2 : γ → List SV} {w2 : γ → Prop} (ht : P.underlying t = some (.struct #[f0, f1, f2])) (o0 : f0.offset = 0) (h0 : P.cellsOf f0.type = k0) (o1 : f1.offset = k0) (h1 : P.cellsOf f1.type = k1) (o2 : f2.offset = k0 + k1) (h2 : P.cellsOf f2.type = k2) (hC : P.cellsOf t = k0 + k1 + k2)
    (d0 : Dec H enc P w f0.type e0 w0) (d1 : Dec H enc P w f1.type e1 w1) (d2 : Dec H enc P w f2.type e2 w2) : Dec H enc P w t (fun x : α × β × γ => e0 x.1 ++ (e1 x.2.1 ++ e2 x.2.2)) (fun x => w0 x.1 ∧ w1 x.2.1 ∧ w2 x.2.2) := by
  intro base sp held n cs y h
  obtain ⟨y0, y1, y2, m, _, hl, g0, g1, g2⟩ := trod_struct3 ht h
  obtain ⟨a, ha, hc⟩ := d0 _ _ _ _ _ _ g0
  obtain ⟨b, hb, hd⟩ := d1 _ _ _ _ _ _ g1
  obtain ⟨c, hc', he⟩ := d2 _ _ _ _ _ _ g2
  rw [o0, h0, List.drop_zero] at hc
  rw [o1, h1] at hd
  rw [o2, h2, List.take_of_length_le (by rw [List.length_drop]; omega), ← List.drop_drop] at he
  refine ⟨(a, b, c), ⟨ha, hb, hc'⟩, ?_⟩
  have := hc.append (hd.append he)
  rwa [List.take_append_drop, List.take_append_drop] at this
end
end Go.Vc

/-
  DERIVED. What is read of stacks and of a profile.
-/
namespace Go.Proofs.YtklcphbgaeiegaaGreatDoor
open Go.Vc Go.RowKit Go.WideShapes Go.ChangeShapes Go.Deep
section
variable {H : Type} {enc : TypeId × Value → H} {w : World}
def okN (L : List Node) : Prop := L.length ≤ maxLen ∧ ∀ x ∈ L, x.name.size ≤ maxLen
theorem rowNode' : Dec H enc Tryz.prog w 182 encNode (fun x => x.name.size ≤ maxLen) :=
  (Dec.struct2 (k0 := 1) (k1 := 2) Tryz.underlying182 rfl (by kernel_rfl) rfl (by kernel_rfl) (by kernel_rfl) (Dec.int Tryz.underlying3) rowFrame).map (fun x : Int × Frame => (⟨x.1, x.2.name, x.2.line⟩ : Node)) (fun _ => rfl) (fun _ h => h.2.1)
theorem rowStk : Dec H enc Tryz.prog w 70 (fun N : List Node => [.sl 3 (N.map encNode)]) okN :=
  Dec.struct1 (k0 := 1) Tryz.underlying70 rfl (by kernel_rfl) (by kernel_rfl) (Dec.slice (s := 3) Tryz.underlying68 (by kernel_rfl) (by omega) rowNode' (fun _ => rfl))
theorem rowPr : Dec H enc Tryz.prog w 72 (fun x : List Node × List Int => [.sl 3 (x.1.map encNode), .sl 1 (x.2.map encI)]) wfM :=
  (Dec.struct2 (k0 := 1) (k1 := 1) Tryz.underlying72 rfl (by kernel_rfl) rfl (by kernel_rfl) (by kernel_rfl) rowStk
    (Dec.slice (s := 1) Tryz.underlying27 (by kernel_rfl) (by omega) (Dec.int Tryz.underlying3) (fun _ => rfl))).map (fun x : List Node × List Int => x) (fun _ => rfl) (fun _ h => ⟨h.1.1, h.1.2, h.2.1⟩)
end
end Go.Proofs.YtklcphbgaeiegaaGreatDoor

