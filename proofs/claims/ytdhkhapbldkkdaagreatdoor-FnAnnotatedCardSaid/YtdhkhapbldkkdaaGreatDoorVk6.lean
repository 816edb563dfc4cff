/-
  DERIVED. Several texts of ours in one: VpTok, VpGen, VtStk, VsLay, VpCut, VcU, VsLib, VtFmt, VtTkOk, VcRt.
-/
import Derived.Test.YtdhkhapbldkkdaaGreatDoorVk0
import Derived.Test.YtdhkhapbldkkdaaGreatDoorVk1
import Derived.Test.YtdhkhapbldkkdaaGreatDoorVk2
import Derived.Test.YtdhkhapbldkkdaaGreatDoorVk3
import Derived.Test.YtdhkhapbldkkdaaGreatDoorVk4
import Derived.Test.YtdhkhapbldkkdaaGreatDoorVk5
import Derived.Lib.Split
import Derived.Shelf.LaysM
import Derived.Shelf.Small.Strs
import Derived.Shelf.Strings.OnBuilder
import Derived.Test.YtdhkhapbldkkdaaGreatDoorProg
import Derived.Lib.SplitLaws
import Derived.Lib.CountLaws
import Derived.Lib.ItoaNum
import Derived.Lib.IndexMore
import Derived.Sort.Grow
import Derived.Shelf.Strconv.Itoa3
import Derived.Shelf.Strings.Cut
import Derived.Shelf.Strings.Split
set_option linter.unusedSimpArgs false
set_option linter.unusedVariables false
set_option maxHeartbeats 1000000
set_option maxRecDepth 10000
namespace Go.Proofs.YtdhkhapbldkkdaaGreatDoor
def kCl (t : Tok) : Bool :=
 if t.kind = 0 then decide (0 ≤ t.num) && decide (t.num ≤ 999) && decide (t.name = ⟨#[]⟩)
 else if t.kind = 1 then decide (t.num = 0) && kBv t.name
 else if t.kind = 7 then decide (0 ≤ t.num) && decide (t.num ≤ 4) && kBv t.name
 else decide (2 ≤ t.kind) && decide (t.kind ≤ 6) && decide (t.num = 0) && decide (t.name = ⟨#[]⟩)
theorem kFh {t : Tok} (h : kCl t = true) :
  (t.kind = 0 ∧ 0 ≤ t.num ∧ t.num ≤ 999 ∧ t.name = ⟨#[]⟩) ∨ (t.kind = 1 ∧ t.num = 0 ∧ kBv t.name = true) ∨ (t.kind = 7 ∧ 0 ≤ t.num ∧ t.num ≤ 4 ∧ kBv t.name = true) ∨
  (2 ≤ t.kind ∧ t.kind ≤ 6 ∧ t.num = 0 ∧ t.name = ⟨#[]⟩) := by
 unfold kCl at h
 split at h
 ·simp at h; exact .inl ⟨by assumption, h.1.1, h.1.2, h.2⟩
 ·split at h
  ·simp at h; exact .inr (.inl ⟨by assumption, h.1, h.2⟩)
  ·split at h
   ·simp at h; exact .inr (.inr (.inl ⟨by assumption, h.1.1, h.1.2, h.2⟩))
   ·simp at h; exact .inr (.inr (.inr ⟨h.1.1.1, h.1.1.2, h.1.2, h.2⟩))
def arN (t : Tok) : Nat := if t.kind = 7 then t.num.toNat else if t.kind = 0 ∨ t.kind = 1 then 0 else 2
theorem k75 {t : Tok} (h : kCl t = true) : arN t ≤ 4 := by
 unfold arN
 rcases kFh h with ⟨a, _⟩ | ⟨a, _⟩ | ⟨a, b, c, _⟩ | ⟨a, b, _⟩
 ·rw [if_neg (by omega), if_pos (.inl a)] <;> omega
 ·rw [if_neg (by omega), if_pos (.inr a)] <;> omega
 ·rw [if_pos a]; omega
 ·split
  ·omega
  ·split <;> omega
def arity (t : Tok) : Int := if kCl t = true then (arN t : Int) else -1
def opB (k : Int) : UInt8 := if k = 2 then 43 else if k = 3 then 45 else if k = 4 then 42 else if k = 5 then 60 else 61
def tokL (t : Tok) : List UInt8 :=
 if t.kind = 0 then fmtL t.num.toNat else if t.kind = 1 then t.name.data.toList else if t.kind = 7 then t.name.data.toList ++ 47 :: fmtL t.num.toNat else [opB t.kind]
def kEj (t : Tok) : ByteArray := if kCl t = true then bts (tokL t) else ⟨#[]⟩
theorem kFs (l : List UInt8) : (bts l).data.toList = l := by simp [bts]
theorem k76 {l : List UInt8} (h : l ≠ []) : ¬ bts l = ⟨#[]⟩ := fun e => h (by
 have : (bts l).data.toList = [] := by rw [e]
 rwa [kFs] at this)
theorem kUr {k : Int} (h : 2 ≤ k) (h' : k ≤ 6) : k = 2 ∨ k = 3 ∨ k = 4 ∨ k = 5 ∨ k = 6 := by omega
theorem kOh {t : Tok} (h : kCl t = true) : (∀ c ∈ tokL t, 42 ≤ c.toNat ∧ c.toNat ≤ 122) ∧ tokL t ≠ [] ∧ (tokL t).length ≤ 10 := by
 unfold tokL
 rcases kFh h with ⟨a, b, c, _⟩ | ⟨a, b, c⟩ | ⟨a, b, c, d⟩ | ⟨a, b, _⟩
 ·rw [if_pos a]
  refine ⟨fun x hx => ?_, kUp _, ?_⟩
  ·have := kIi _ _ hx; omega
  ·have := kIk 3 t.num.toNat (by omega) (by omega); omega
 ·rw [if_neg (by omega), if_pos a]
  have hn := kBk c
  have hl : t.name.data.toList.length = t.name.size := by simp
  refine ⟨fun x hx => ?_, fun e => ?_, by omega⟩
  ·have := hn.1 x hx; omega
  ·rw [e] at hl; simp at hl; omega
 ·rw [if_neg (by omega), if_neg (by omega), if_pos a]
  have hn := kBk d
  have hl : t.name.data.toList.length = t.name.size := by simp
  refine ⟨fun x hx => ?_, by simp, ?_⟩
  ·rcases List.mem_append.1 hx with hx | hx
   ·have := hn.1 x hx; omega
   ·rcases List.mem_cons.1 hx with rfl | hx
    ·exact ⟨by decide, by decide⟩
    ·have := kIi _ _ hx; omega
  ·have := kIk 1 t.num.toNat (by omega) (by omega)
   simp only [List.length_append, List.length_cons]; omega
 ·rw [if_neg (by omega), if_neg (by omega), if_neg (by omega)]
  refine ⟨fun x hx => ?_, by simp, by simp⟩
  simp only [List.mem_cons, List.not_mem_nil, or_false] at hx
  subst hx
  rcases kUr a b with e | e | e | e | e <;> rw [e] <;> exact ⟨by decide, by decide⟩
def kGb (s : ByteArray) : Tok := match kBj s with
 |some n => ⟨0, (n : Int), ⟨#[]⟩⟩
 |none => if s.size = 1 ∧ 0 ≤ Lib.index [43, 45, 42, 60, 61] s.data.toList then ⟨2 + Lib.index [43, 45, 42, 60, 61] s.data.toList, 0, ⟨#[]⟩⟩
  else if (Lib.cut s.data.toList [47]).2.2 = true ∧ (kBj (bts (Lib.cut s.data.toList [47]).2.1)).isSome = true then
   ⟨7, (((kBj (bts (Lib.cut s.data.toList [47]).2.1)).getD 0 : Nat) : Int), bts (Lib.cut s.data.toList [47]).1⟩
  else ⟨1, 0, s⟩
def kEl (s : ByteArray) : Option Tok := if s.size ≠ 0 ∧ kEj (kGb s) = s then some (kGb s) else none
theorem kLy {l : List UInt8} {c : UInt8} (hc : c ∈ l) (h : dig c = false) : kBj (bts l) = none := by
 unfold kBj
 rw [if_neg]
 rintro ⟨_, _, _, hd, _⟩
 rw [List.all_eq_true, kFs] at hd
 rw [hd c hc] at h; cases h
theorem kZc {c : UInt8} (h : 58 ≤ c.toNat ∨ c.toNat ≤ 47) : dig c = false := by
 rw [Bool.eq_false_iff]; intro hc; have := kIt.1 hc; omega
theorem kUs : ∀ (l : List UInt8) {c : UInt8}, c ∉ l → Lib.index l [c] = -1
 | [], _, _ => rfl
 |b :: l, c, h => by
  simp only [List.mem_cons, not_or] at h
  unfold Lib.index
  rw [kUs l h.2, if_neg (by simp [List.isPrefixOf]; exact h.1)]
  rfl
theorem k1y (c : UInt8) : ∀ {x : List UInt8} (r : List UInt8), c ∉ x → Lib.index (x ++ c :: r) [c] = x.length
 | [], r, _ => by simp [Lib.index, List.isPrefixOf]
 |b :: x, r, h => by
  simp only [List.mem_cons, not_or] at h
  rw [List.cons_append]
  unfold Lib.index
  rw [k1y c r h.2, if_neg (by simp [List.isPrefixOf]; exact h.1), if_neg (by simp; try omega)]
  simp
theorem qCj (c : UInt8) {l : List UInt8} (h : c ∉ l) : Lib.cut l [c] = (l, [], false) := by
 unfold Lib.cut
 rw [kUs l h, if_neg (by omega)]
theorem qCk (c : UInt8) {x : List UInt8} (r : List UInt8) (h : c ∉ x) : Lib.cut (x ++ c :: r) [c] = (x, r, true) := by
 unfold Lib.cut
 rw [k1y c r h, if_pos (by omega), Int.toNat_natCast]
 simp
theorem kQl {a b : Tok} (h0 : a.kind = b.kind) (h1 : a.num = b.num) (h2 : a.name = b.name) : a = b := by cases a; cases b; simp_all
theorem k77 {t : Tok} (h : kCl t = true) : kGb (bts (tokL t)) = t := by
 unfold kGb
 rcases kFh h with ⟨a, b, c, d⟩ | ⟨a, b, c⟩ | ⟨a, b, c, d⟩ | ⟨a, b, c, d⟩
 ·have e : tokL t = fmtL t.num.toNat := by unfold tokL; rw [if_pos a]
  rw [e, kKa _ (by omega)]
  exact kQl a.symm (by show ((t.num.toNat : Nat) : Int) = t.num; omega) d.symm
 ·have e : tokL t = t.name.data.toList := by unfold tokL; rw [if_neg (by omega), if_pos a]
  have hn := kBk c
  have hl : t.name.data.toList.length = t.name.size := by simp
  have h47 : (47 : UInt8) ∉ t.name.data.toList := fun hc => by
   have := hn.1 _ hc
   have e : (47 : UInt8).toNat = 47 := rfl
   omega
  have hne : t.name.data.toList ≠ [] := fun e => by rw [e] at hl; simp at hl; omega
  obtain ⟨x, hx⟩ := List.exists_mem_of_ne_nil _ hne
  have hxl := hn.1 x hx
  rw [e, kLy hx (kZc (by omega))]
  simp only
  rw [kFs, qCj 47 h47, if_neg, if_neg (by simp), kEn]
  ·exact kQl a.symm b.symm rfl
  ·rintro ⟨h1, h2⟩
   rw [kBb] at h1
   match hq : t.name.data.toList, h1 with
   | [y], _ =>
    rw [hq] at h2 hn
    have hy := hn.1 y (by simp)
    rw [kUs _ (fun hm => by
     simp only [List.mem_cons, List.not_mem_nil, or_false] at hm
     have e1 : (43 : UInt8).toNat = 43 := rfl
     have e2 : (45 : UInt8).toNat = 45 := rfl
     have e3 : (42 : UInt8).toNat = 42 := rfl
     have e4 : (60 : UInt8).toNat = 60 := rfl
     have e5 : (61 : UInt8).toNat = 61 := rfl
     rcases hm with rfl | rfl | rfl | rfl | rfl <;> omega)] at h2
    omega
 ·have e : tokL t = t.name.data.toList ++ 47 :: fmtL t.num.toNat := by unfold tokL; rw [if_neg (by omega), if_neg (by omega), if_pos a]
  have hn := kBk d
  have hl : t.name.data.toList.length = t.name.size := by simp
  have h47 : (47 : UInt8) ∉ t.name.data.toList := fun hc => by
   have := hn.1 _ hc
   have e : (47 : UInt8).toNat = 47 := rfl
   omega
  rw [e, kLy (c := 47) (by simp) (by decide)]
  simp only
  rw [kFs, qCk 47 _ h47, if_neg (by rw [kBb]; simp only [List.length_append, List.length_cons]; omega)]
  simp only
  rw [kKa _ (by omega), if_pos (by simp), kEn]
  exact kQl a.symm (by show ((t.num.toNat : Nat) : Int) = t.num; omega) rfl
 ·have e : tokL t = [opB t.kind] := by unfold tokL; rw [if_neg (by omega), if_neg (by omega), if_neg (by omega)]
  rw [e]
  rcases kUr a b with q | q | q | q | q
  all_goals
   rw [q, kLy (List.mem_singleton_self _) (by decide)]
   simp only
   rw [kFs, if_pos ⟨by rw [kBb]; rfl, by decide⟩]
   exact kQl (by rw [q]; decide) c.symm d.symm
theorem k78 {t : Tok} (h : kCl t = true) : kEl (bts (tokL t)) = some t := by
 unfold kEl
 rw [k77 h, if_pos]
 refine ⟨fun e => (kOh h).2.1 (List.eq_nil_of_length_eq_zero (by rw [kBb] at e; exact e)), ?_⟩
 unfold kEj; rw [if_pos h]
theorem kXa {s : ByteArray} (h : s = ⟨#[]⟩) : s.size = 0 := by rw [h]; rfl
theorem k73 {s : ByteArray} (h : s.size = 0) : s = ⟨#[]⟩ := by
 rw [← kEn s]
 have : s.data.toList = [] := List.eq_nil_of_length_eq_zero (by simpa using h)
 rw [this]; rfl
theorem k3y {s : ByteArray} {t : Tok} (h : kEl s = some t) : kCl t = true ∧ s = bts (tokL t) := by
 unfold kEl at h
 split at h
 ·rename_i hc
  cases h
  have h2 := hc.2
  unfold kEj at h2
  split at h2
  ·rename_i hk; exact ⟨hk, h2.symm⟩
  ·exact absurd (kXa h2.symm) hc.1
 ·cases h
def endGo : List Tok → Nat → Nat → Int
 | [], n, a => if n = 0 then (a : Int) else -1
 |t :: L, n, a => if n = 0 then (a : Int) else if kCl t = true then endGo L (n - 1 + arN t) (a + 1) else -1
theorem kTe (L : List Tok) (a : Nat) : endGo L 0 a = a := by cases L <;> simp [endGo]
theorem kPt {n : Nat} (a : Nat) (h : 0 < n) : endGo [] n a = -1 := by simp [endGo]; omega
theorem kZd {t : Tok} {L : List Tok} {n a : Nat} (hn : 0 < n) (h : kCl t = true) : endGo (t :: L) n a = endGo L (n - 1 + arN t) (a + 1) := by
 rw [endGo, if_neg (by omega), if_pos h]
theorem kV2 {t : Tok} {L : List Tok} {n a : Nat} (hn : 0 < n) (h : kCl t = false) : endGo (t :: L) n a = -1 := by
 rw [endGo, if_neg (by omega), if_neg (by simp [h])]
def kIv (L : List Tok) (a : Int) : Int := if 0 ≤ a then endGo (L.drop a.toNat) 1 a.toNat else -1
theorem kTf : ∀ (L : List Tok) (n a : Nat), endGo L n a = -1 ∨ ∃ k, k ≤ L.length ∧ endGo L n a = ((a + k : Nat) : Int) ∧ (∀ t ∈ L.take k, kCl t = true) ∧ (0 < n → 0 < k)
 | [], n, a => by
  by_cases h : n = 0
  ·exact .inr ⟨0, by simp, by simp [endGo, h], by simp, by omega⟩
  ·exact .inl (by simp [endGo, h])
 |t :: L, n, a => by
  by_cases h : n = 0
  ·exact .inr ⟨0, by simp, by simp [endGo, h], by simp, by omega⟩
  ·cases hk : kCl t with
   |false => exact .inl (kV2 (by omega) hk)
   |true =>
    rw [kZd (by omega) hk]
    rcases kTf L (n - 1 + arN t) (a + 1) with e | ⟨k, h1, h2, h3, _⟩
    ·exact .inl e
    ·exact .inr ⟨k + 1, by simp; omega, by rw [h2]; congr 1; omega, fun x hx => by
      rw [List.take_succ_cons] at hx
      rcases List.mem_cons.1 hx with rfl | hx
      ·exact hk
      ·exact h3 x hx, by omega⟩
def kCy (L : List Tok) : Bool := decide (L.length ≤ 20) && decide (L ≠ []) && decide (kIv L 0 = (L.length : Int))
theorem kHl {L : List Tok} : kCy L = true ↔ L.length ≤ 20 ∧ L ≠ [] ∧ kIv L 0 = (L.length : Int) := by simp [kCy, and_assoc]
theorem k3z : kCy [] = false := by simp [kCy]
theorem kKk {L : List Tok} (h : kCy L = true) : ∀ t ∈ L, kCl t = true := by
 obtain ⟨h1, h2, h3⟩ := kHl.1 h
 unfold kIv at h3
 rw [if_pos (by omega)] at h3
 simp only [Int.toNat_zero, List.drop_zero] at h3
 rcases kTf L 1 0 with e | ⟨k, q1, q2, q3, _⟩
 ·omega
 ·rw [List.take_of_length_le (by omega)] at q3; exact q3
def kNn (L : List Tok) : ByteArray := if kCy L = true then bts (joinL 32 (L.map tokL)) else ⟨#[]⟩
def kCn (W : List ByteArray) : Option (List Tok) := match W.mapM kEl with
 |some L => if kCy L = true then some L else none
 |none => none
theorem kTg : ∀ {L : List Tok}, (∀ t ∈ L, kCl t = true) → (L.map fun t => bts (tokL t)).mapM kEl = some L
 | [], _ => rfl
 |t :: L, h => by
  simp [k78 (h t (by simp)), kTg (L := L) fun x hx => h x (List.mem_cons_of_mem _ hx)]
theorem kTh {L : List Tok} (h : kCy L = true) : kCn (L.map fun t => bts (tokL t)) = some L := by
 unfold kCn
 rw [kTg (kKk h)]
 simp only
 rw [if_pos h]
theorem kK8 : kCn [] = none := by simp [kCn, k3z]
theorem k79 {W : List ByteArray} {L : List Tok} (h : kCn W = some L) : kCy L = true := by
 unfold kCn at h
 split at h
 ·split at h
  ·cases h; assumption
  ·cases h
 ·cases h
def kDl (k : Int) : Bool := decide (k = 1) || decide (k = 2) || decide (k = 3) || decide (k = 5) || decide (k = 6)
theorem k8a {k : Int} : kDl k = true ↔ k = 1 ∨ k = 2 ∨ k = 3 ∨ k = 5 ∨ k = 6 := by simp [kDl, or_assoc]
structure kAm (x : Line) : Prop where
 kind : 0 ≤ x.kind ∧ x.kind ≤ 7
 few : x.args.length ≤ 4
 names : ∀ s ∈ x.args, kBv s = true
 apart : x.args.Nodup
 kLz : x.kind ≠ 0 → x.args = []
 name : x.kind = 0 ∨ x.kind = 1 → kBv x.name = true
 kPu : ¬ (x.kind = 0 ∨ x.kind = 1) → x.name = ⟨#[]⟩
 expr : kDl x.kind = true → kCy x.expr = true
 kFv : kDl x.kind = false → x.expr = []
theorem k8b (x : Line) : kAm x ↔ ((0 ≤ x.kind ∧ x.kind ≤ 7) ∧ x.args.length ≤ 4 ∧ (∀ s ∈ x.args, kBv s = true) ∧ x.args.Nodup ∧ (x.kind ≠ 0 → x.args = []) ∧
  (x.kind = 0 ∨ x.kind = 1 → kBv x.name = true) ∧ (¬ (x.kind = 0 ∨ x.kind = 1) → x.name = ⟨#[]⟩) ∧ (kDl x.kind = true → kCy x.expr = true) ∧ (kDl x.kind = false → x.expr = [])) :=
 ⟨fun h => ⟨h.1, h.2, h.3, h.4, h.5, h.6, h.7, h.8, h.9⟩, fun ⟨a, b, c, d, e, f, g, i, j⟩ => ⟨a, b, c, d, e, f, g, i, j⟩⟩
instance (x : Line) : Decidable (kAm x) := decidable_of_iff' _ (k8b x)
def kw (k : Int) : List UInt8 :=
 if k = 0 then [102, 117, 110] else if k = 1 then [115, 101, 116] else if k = 2 then [111, 117, 116] else if k = 3 then [105, 102] else if k = 4 then [101, 108, 115, 101]
 else if k = 5 then [119, 104, 105, 108, 101] else if k = 6 then [114, 101, 116, 117, 114, 110] else [101, 110, 100]
def kwIx (w : ByteArray) : Int :=
 if w = bts (kw 0) then 0 else if w = bts (kw 1) then 1 else if w = bts (kw 2) then 2 else if w = bts (kw 3) then 3 else if w = bts (kw 4) then 4 else if w = bts (kw 5) then 5
 else if w = bts (kw 6) then 6 else if w = bts (kw 7) then 7 else -1
theorem kUt {k : Int} (h : 0 ≤ k) (h' : k ≤ 7) : k = 0 ∨ k = 1 ∨ k = 2 ∨ k = 3 ∨ k = 4 ∨ k = 5 ∨ k = 6 ∨ k = 7 := by omega
theorem qCl {k : Int} (h : 0 ≤ k) (h' : k ≤ 7) : kwIx (bts (kw k)) = k := by
 rcases kUt h h' with e | e | e | e | e | e | e | e <;> rw [e] <;> decide
theorem k36 (w : ByteArray) : -1 ≤ kwIx w ∧ kwIx w ≤ 7 := by
 unfold kwIx
 repeat' split
 all_goals omega
theorem kZe {k : Int} (h : 0 ≤ k) (h' : k ≤ 7) : (∀ c ∈ kw k, 42 ≤ c.toNat ∧ c.toNat ≤ 122) ∧ kw k ≠ [] ∧ (kw k).length ≤ 10 := by
 rcases kUt h h' with e | e | e | e | e | e | e | e <;> rw [e] <;> exact ⟨by decide, by decide, by decide⟩
def kGv (s : ByteArray) : List (List UInt8) := if s = ⟨#[]⟩ then [] else [s.data.toList]
def kB5 (x : Line) : List (List UInt8) := kw x.kind :: (kGv x.name ++ x.args.map (·.data.toList) ++ x.expr.map tokL)
def kD4 (x : Line) : ByteArray := if kAm x then bts (joinL 32 (kB5 x)) else ⟨#[]⟩
def kJh (k : Int) (r : List ByteArray) : Prop := (k = 0 ∨ k = 1) ∧ r ≠ []
instance (k : Int) (r : List ByteArray) : Decidable (kJh k r) := by unfold kJh; infer_instance
def kKl (k : Int) (r : List ByteArray) : ByteArray := if kJh k r then r.headD ⟨#[]⟩ else ⟨#[]⟩
def kGw (k : Int) (r : List ByteArray) : List ByteArray := if kJh k r then r.tail else r
def kGx (k : Int) (r : List ByteArray) : Line := ⟨k, kKl k r, if k = 0 then kGw k r else [], if k = 0 then [] else (kCn (kGw k r)).getD []⟩
def kMm (W : List ByteArray) : Line := kGx (kwIx (W.headD ⟨#[]⟩)) W.tail
theorem k8c {s : ByteArray} (h : kBv s = true) : s ≠ ⟨#[]⟩ := fun e => by
 have := (kBk h).2.1
 rw [e] at this; exact absurd this (by decide)
theorem kTi {s : ByteArray} (h : kBv s = true) : (∀ c ∈ s.data.toList, 42 ≤ c.toNat ∧ c.toNat ≤ 122) ∧ s.data.toList ≠ [] ∧ s.data.toList.length ≤ 10 := by
 have hn := kBk h
 have hl : s.data.toList.length = s.size := by simp
 refine ⟨fun x hx => ?_, fun e => ?_, by omega⟩
 ·have := hn.1 x hx; omega
 ·rw [e] at hl; simp at hl; omega
theorem kMy {x : Line} (h : kAm x) : ∀ w ∈ kB5 x, (∀ c ∈ w, 42 ≤ c.toNat ∧ c.toNat ≤ 122) ∧ w ≠ [] ∧ w.length ≤ 10 := by
 intro w hw
 unfold kB5 at hw
 rcases List.mem_cons.1 hw with rfl | hw
 ·exact kZe h.kind.1 h.kind.2
 ·rcases List.mem_append.1 hw with hw | hw
  ·rcases List.mem_append.1 hw with hw | hw
   ·unfold kGv at hw
    by_cases hne : x.name = ⟨#[]⟩
    ·rw [if_pos hne] at hw; cases hw
    ·rw [if_neg hne] at hw
     simp only [List.mem_cons, List.not_mem_nil, or_false] at hw
     subst hw
     by_cases hk : x.kind = 0 ∨ x.kind = 1
     ·exact kTi (h.name hk)
     ·exact absurd (h.kPu hk) hne
   ·obtain ⟨s, hs, rfl⟩ := List.mem_map.1 hw
    exact kTi (h.names s hs)
  ·obtain ⟨t, ht, rfl⟩ := List.mem_map.1 hw
   by_cases he : kDl x.kind = true
   ·exact kOh (kKk (h.expr he) t ht)
   ·rw [h.kFv (by simpa using he)] at ht; cases ht
theorem k8d {x : Line} (h : kAm x) : (kB5 x).length ≤ 22 := by
 unfold kB5
 simp only [List.length_cons, List.length_append, List.length_map]
 have hf := h.few
 have hn : (kGv x.name).length ≤ 1 := by unfold kGv; split <;> simp
 by_cases he : kDl x.kind = true
 ·have h1 := (kHl.1 (h.expr he)).1
  have h2 : x.args = [] := h.kLz (by rcases k8a.1 he with e | e | e | e | e <;> omega)
  rw [h2]; simp only [List.length_nil]; omega
 ·rw [h.kFv (by simpa using he)]; simp only [List.length_nil]; omega
theorem qAl {x : Line} (h : kAm x) (c : UInt8) (hc : c.toNat < 42) : ∀ w ∈ kB5 x, c ∉ w := fun w hw hm => by
 have := (kMy h w hw).1 c hm; omega
theorem kOi (c : UInt8) : ∀ (L : List (List UInt8)) (n : Nat), (∀ x ∈ L, x.length ≤ n) → (joinL c L).length ≤ (n + 1) * L.length
 | [], n, _ => by simp [joinL]
 | [x], n, h => by have := h x (by simp); simp only [joinL, List.length_cons, List.length_nil]; omega
 |x :: y :: l, n, h => by
  have ih := kOi c (y :: l) n fun z hz => h z (List.mem_cons_of_mem _ hz)
  have := h x (by simp)
  simp only [joinL, List.length_append, List.length_cons] at ih ⊢
  have e : (n + 1) * (l.length + 1 + 1) = (n + 1) * (l.length + 1) + (n + 1) := by rw [Nat.mul_add]; omega
  omega
theorem kQ7 {c : UInt8} {P : UInt8 → Prop} (hc : P c) : ∀ {L : List (List UInt8)}, (∀ x ∈ L, ∀ b ∈ x, P b) → ∀ b ∈ joinL c L, P b
 | [], _, b, hb => by cases hb
 | [x], h, b, hb => h x (by simp) b hb
 |x :: y :: l, h, b, hb => by
  rw [joinL] at hb
  rcases List.mem_append.1 hb with hb | hb
  ·exact h x (by simp) b hb
  ·rcases List.mem_cons.1 hb with rfl | hb
   ·exact hc
   ·exact kQ7 hc (fun z hz => h z (List.mem_cons_of_mem _ hz)) b hb
theorem kK3 {x : Line} (h : kAm x) : kD4 x = bts (joinL 32 (kB5 x)) := if_pos h
theorem kV3 {x : Line} (h : kAm x) : (joinL 32 (kB5 x)).length ≤ 242 := by
 have h1 := kOi 32 (kB5 x) 10 fun w hw => (kMy h w hw).2.2
 have h2 := k8d h
 have : (10 + 1) * (kB5 x).length ≤ 11 * 22 := Nat.mul_le_mul (by omega) h2
 omega
theorem qCm {x : Line} (h : kAm x) : joinL 32 (kB5 x) ≠ [] := by
 have hk := (kZe h.kind.1 h.kind.2).2.1
 unfold kB5
 cases hr : kGv x.name ++ x.args.map (·.data.toList) ++ x.expr.map tokL with
 |nil => exact hk
 |cons y l => rw [joinL]; simp
theorem k8e {x : Line} (h : kAm x) : cutL 32 (joinL 32 (kB5 x)) = kB5 x :=
 kPo 32 (by simp [kB5]) fun w hw => qAl h 32 (by decide) w hw
theorem qCn (L : List ByteArray) : L.map (fun s => bts s.data.toList) = L := by
 rw [show (fun s : ByteArray => bts s.data.toList) = id from funext kEn, List.map_id]
theorem k1z {a b : Line} (h0 : a.kind = b.kind) (h1 : a.name = b.name) (h2 : a.args = b.args) (h3 : a.expr = b.expr) : a = b := by cases a; cases b; simp_all
theorem k0v {x : Line} (h : kAm x) : kMm ((kB5 x).map bts) = x := by
 have e : (kB5 x).map bts = bts (kw x.kind) :: ((kGv x.name).map bts ++ x.args ++ x.expr.map fun t => bts (tokL t)) := by
  unfold kB5
  rw [List.map_cons, List.map_append, List.map_append, List.map_map, List.map_map]
  congr 2
  congr 1
  exact qCn x.args
 rw [e]
 unfold kMm
 rw [List.headD_cons, List.tail_cons, qCl h.kind.1 h.kind.2]
 by_cases hk : x.kind = 0 ∨ x.kind = 1
 ·have hn := h.name hk
  have e1 : (kGv x.name).map bts = [x.name] := by unfold kGv; rw [if_neg (k8c hn), List.map_cons, List.map_nil, kEn]
  rw [e1]
  have hh : kJh x.kind (([x.name] ++ x.args) ++ x.expr.map fun t => bts (tokL t)) := ⟨hk, by simp⟩
  refine k1z rfl ?_ ?_ ?_
  ·show kKl _ _ = _
   unfold kKl; rw [if_pos hh]; rfl
  ·show (if x.kind = 0 then kGw _ _ else []) = _
   unfold kGw; rw [if_pos hh]
   rcases hk with hk | hk
   ·rw [if_pos hk, h.kFv (by rw [hk]; rfl)]; simp
   ·rw [if_neg (by omega), h.kLz (by omega)]
  ·show (if x.kind = 0 then [] else (kCn (kGw _ _)).getD []) = _
   unfold kGw; rw [if_pos hh]
   rcases hk with hk | hk
   ·rw [if_pos hk, h.kFv (by rw [hk]; rfl)]
   ·rw [if_neg (by omega), h.kLz (by omega)]
    show (kCn (x.expr.map _)).getD [] = _
    rw [kTh (h.expr (by rw [hk]; rfl))]; rfl
 ·have hn := h.kPu hk
  have ha := h.kLz (by omega)
  have e1 : (kGv x.name).map bts = [] := by unfold kGv; rw [if_pos hn]; rfl
  rw [e1, ha]
  have hh : ¬ kJh x.kind (([] ++ []) ++ x.expr.map fun t => bts (tokL t)) := fun q => hk q.1
  refine k1z rfl ?_ ?_ ?_
  ·show kKl _ _ = _
   unfold kKl; rw [if_neg hh, hn]
  ·show (if x.kind = 0 then kGw _ _ else []) = _
   rw [if_neg (by omega), ha]
  ·show (if x.kind = 0 then [] else (kCn (kGw _ _)).getD []) = _
   unfold kGw; rw [if_neg hh, if_neg (by omega)]
   show (kCn (x.expr.map _)).getD [] = _
   by_cases he : kDl x.kind = true
   ·rw [kTh (h.expr he)]; rfl
   ·rw [h.kFv (by simpa using he)]; simp [kK8]
def cutW (s : ByteArray) : List ByteArray := (cutL 32 s.data.toList).map bts
def kEp (s : ByteArray) : Option Line := if s.size ≠ 0 ∧ kD4 (kMm (cutW s)) = s then some (kMm (cutW s)) else none
theorem k3n {x : Line} (h : kAm x) : kEp (bts (joinL 32 (kB5 x))) = some x := by
 unfold kEp cutW
 rw [kFs, k8e h, k0v h, if_pos ⟨fun e => qCm h (List.eq_nil_of_length_eq_zero (by rw [kBb] at e; exact e)), kK3 h⟩]
theorem k0w {s : ByteArray} {x : Line} (h : kEp s = some x) : kAm x ∧ s = bts (joinL 32 (kB5 x)) := by
 unfold kEp at h
 split at h
 ·rename_i hc
  cases h
  have h2 := hc.2
  unfold kD4 at h2
  split at h2
  ·rename_i hk; exact ⟨hk, h2.symm⟩
  ·exact absurd (kXa h2.symm) hc.1
 ·cases h
end Go.Proofs.YtdhkhapbldkkdaaGreatDoor

namespace Go.Proofs.YtdhkhapbldkkdaaGreatDoor
def kBn {α : Type} (g : Cur → List α × Cur) : Nat → Cur → List α × Cur
 | 0, c => ([], c)
 |m + 1, c => ((kBn g m c).1 ++ (g (kBn g m c).2).1, (g (kBn g m c).2).2)
structure Gen where
 vars : List ByteArray
 names : List ByteArray
 ars : List Int
structure kKh (G : Gen) : Prop where
 vs : 0 < G.vars.length ∧ G.vars.length ≤ 256
 ns : G.names.length ≤ 256
 same : G.ars.length = G.names.length
 ar : ∀ a ∈ G.ars, 0 ≤ a ∧ a ≤ 2
 vz : ∀ s ∈ G.vars, s.size ≤ 8
 nz : ∀ s ∈ G.names, s.size ≤ 8
def kMg : List Int := [0, 1, 2, 3, 10, 999]
def kAl : ByteArray := ⟨#[]⟩
def kAi (G : Gen) (n : Nat) (c : Cur) : List Tok × Cur :=
 if h1 : 2 < n ∧ kAe c 10 < 5 then
  (⟨2 + kAe (kAb c 10) 5, 0, kAl⟩ :: ((kAi G (n / 2) (kAb (kAb c 10) 5)).1 ++ (kAi G (n / 2) (kAi G (n / 2) (kAb (kAb c 10) 5)).2).1),
   (kAi G (n / 2) (kAi G (n / 2) (kAb (kAb c 10) 5)).2).2)
 else if h2 : 0 < G.names.length ∧ 1 < n ∧ kAe c 10 < 8 then
  (⟨7, G.ars.getD (kAe (kAb c 10) G.names.length).toNat 0, G.names.getD (kAe (kAb c 10) G.names.length).toNat kAl⟩ ::
    (kBn (kAi G (n / 4)) (G.ars.getD (kAe (kAb c 10) G.names.length).toNat 0).toNat (kAb (kAb c 10) G.names.length)).1,
   (kBn (kAi G (n / 4)) (G.ars.getD (kAe (kAb c 10) G.names.length).toNat 0).toNat (kAb (kAb c 10) G.names.length)).2)
 else if kAe (kAb c 10) 2 = 0 then
  ([⟨1, 0, G.vars.getD (kAe (kAb (kAb c 10) 2) G.vars.length).toNat kAl⟩], kAb (kAb (kAb c 10) 2) G.vars.length)
 else ([⟨0, kMg.getD (kAe (kAb (kAb c 10) 2) 6).toNat 0, kAl⟩], kAb (kAb (kAb c 10) 2) 6)
termination_by n
decreasing_by all_goals omega
theorem qB6 {G : Gen} {n : Nat} {c : Cur} (h1 : 2 < n ∧ kAe c 10 < 5) : kAi G n c =
  (⟨2 + kAe (kAb c 10) 5, 0, kAl⟩ :: ((kAi G (n / 2) (kAb (kAb c 10) 5)).1 ++ (kAi G (n / 2) (kAi G (n / 2) (kAb (kAb c 10) 5)).2).1),
   (kAi G (n / 2) (kAi G (n / 2) (kAb (kAb c 10) 5)).2).2) := by rw [kAi, dif_pos h1]
theorem k1p {G : Gen} {n : Nat} {c : Cur} (h1 : ¬ (2 < n ∧ kAe c 10 < 5)) (h2 : 0 < G.names.length ∧ 1 < n ∧ kAe c 10 < 8) : kAi G n c =
  (⟨7, G.ars.getD (kAe (kAb c 10) G.names.length).toNat 0, G.names.getD (kAe (kAb c 10) G.names.length).toNat kAl⟩ ::
    (kBn (kAi G (n / 4)) (G.ars.getD (kAe (kAb c 10) G.names.length).toNat 0).toNat (kAb (kAb c 10) G.names.length)).1,
   (kBn (kAi G (n / 4)) (G.ars.getD (kAe (kAb c 10) G.names.length).toNat 0).toNat (kAb (kAb c 10) G.names.length)).2) := by rw [kAi, dif_neg h1, dif_pos h2]
theorem k1q {G : Gen} {n : Nat} {c : Cur} (h1 : ¬ (2 < n ∧ kAe c 10 < 5)) (h2 : ¬ (0 < G.names.length ∧ 1 < n ∧ kAe c 10 < 8)) : kAi G n c =
  if kAe (kAb c 10) 2 = 0 then ([⟨1, 0, G.vars.getD (kAe (kAb (kAb c 10) 2) G.vars.length).toNat kAl⟩], kAb (kAb (kAb c 10) 2) G.vars.length)
  else ([⟨0, kMg.getD (kAe (kAb (kAb c 10) 2) 6).toNat 0, kAl⟩], kAb (kAb (kAb c 10) 2) 6) := by rw [kAi, dif_neg h1, dif_neg h2]
theorem kG5 {α : Type} {g : Cur → List α × Cur} {Q : α → Prop} {B : Nat} (hg : ∀ c, kA6 c → kA6 (g c).2 ∧ (∀ x ∈ (g c).1, Q x) ∧ (g c).1.length ≤ B) : ∀ (m : Nat) (c : Cur), kA6 c → kA6 (kBn g m c).2 ∧ (∀ x ∈ (kBn g m c).1, Q x) ∧ (kBn g m c).1.length ≤ m * B
 | 0, c, h => ⟨h, by simp [kBn], by simp [kBn]⟩
 |m + 1, c, h => by
  obtain ⟨a, b, d⟩ := kG5 hg m c h
  obtain ⟨a', b', d'⟩ := hg _ a
  refine ⟨a', fun x hx => ?_, ?_⟩
  ·rcases List.mem_append.1 hx with hx | hx
   ·exact b x hx
   ·exact b' x hx
  ·show ((kBn g m c).1 ++ (g (kBn g m c).2).1).length ≤ (m + 1) * B
   rw [List.length_append, Nat.add_mul, Nat.one_mul]; omega
theorem getD_mem {α : Type} {L : List α} {q : Nat} {z : α} (h : q < L.length) : L.getD q z ∈ L := by
 rw [List.getD_eq_getElem?_getD, List.getElem?_eq_getElem h]; exact List.getElem_mem h
theorem kJd {c : Cur} {n : Nat} (h : 0 < n) : (kAe c n).toNat < n := by
 have := kCi c (n := n) (by omega)
 omega
theorem kLr {G : Gen} (hG : kKh G) : ∀ (f n : Nat) (c : Cur), n ≤ f → kA6 c → kA6 (kAi G n c).2 ∧ (∀ t ∈ (kAi G n c).1, t.name.size ≤ 8) ∧ (kAi G n c).1.length + 1 ≤ 2 ^ (f + 1)
 | 0, n, c, hn, h => by
  have e0 : kAl.size = 0 := rfl
  have h1 := h.kAb 10
  have h2 := h1.kAb 2
  rw [kAi, dif_neg (by omega), dif_neg (by omega)]
  split
  ·refine ⟨h2.kAb _, fun t ht => ?_, by simp⟩
   rw [List.mem_singleton] at ht
   rw [ht]; exact hG.vz _ (getD_mem (kJd hG.vs.1))
  ·refine ⟨h2.kAb 6, fun t ht => ?_, by simp⟩
   rw [List.mem_singleton] at ht
   rw [ht]; simp only [e0]; omega
 |f + 1, n, c, hn, h => by
  have e0 : kAl.size = 0 := rfl
  have h1 := h.kAb 10
  have h2 := h1.kAb 2
  have hp : 2 ^ (f + 1 + 1) = 2 ^ (f + 1) * 2 := Nat.pow_succ 2 (f + 1)
  have hp1 : 2 ≤ 2 ^ (f + 1) := by rw [Nat.pow_succ]; have := Nat.one_le_two_pow (n := f); omega
  rw [kAi]
  split
  ·rename_i hc
   obtain ⟨a, b, d⟩ := kLr hG f (n / 2) _ (by omega) (h1.kAb 5)
   obtain ⟨a', b', d'⟩ := kLr hG f (n / 2) _ (by omega) a
   refine ⟨a', fun t ht => ?_, ?_⟩
   ·rcases List.mem_cons.1 ht with ht | ht
    ·rw [ht]; simp only [e0]; omega
    ·rcases List.mem_append.1 ht with ht | ht
     ·exact b t ht
     ·exact b' t ht
   ·simp only [List.length_cons, List.length_append]; omega
  ·split
   ·rename_i hc
    have hq := kJd (c := kAb c 10) hc.1
    have hqa : (kAe (kAb c 10) G.names.length).toNat < G.ars.length := by rw [hG.same]; exact hq
    have har := hG.ar _ (getD_mem (z := 0) hqa)
    obtain ⟨a, b, d⟩ := kG5 (Q := fun t : Tok => t.name.size ≤ 8) (B := 2 ^ (f + 1) - 1) (fun c hc => by
     obtain ⟨a, b, d⟩ := kLr hG f (n / 4) c (by omega) hc
     exact ⟨a, b, by omega⟩) (G.ars.getD (kAe (kAb c 10) G.names.length).toNat 0).toNat _ (h1.kAb G.names.length)
    refine ⟨a, fun t ht => ?_, ?_⟩
    ·rcases List.mem_cons.1 ht with ht | ht
     ·rw [ht]; exact hG.nz _ (getD_mem hq)
     ·exact b t ht
    ·have h3 : (G.ars.getD (kAe (kAb c 10) G.names.length).toNat 0).toNat * (2 ^ (f + 1) - 1) ≤ 2 * (2 ^ (f + 1) - 1) := Nat.mul_le_mul_right _ (by omega)
     simp only [List.length_cons]; omega
   ·split
    ·refine ⟨h2.kAb _, fun t ht => ?_, by simp only [List.length_singleton]; omega⟩
     rw [List.mem_singleton] at ht
     rw [ht]; exact hG.vz _ (getD_mem (kJd hG.vs.1))
    ·refine ⟨h2.kAb 6, fun t ht => ?_, by simp only [List.length_singleton]; omega⟩
     rw [List.mem_singleton] at ht
     rw [ht]; simp only [e0]; omega
def nmI : ByteArray := ⟨#[105]⟩
def stepG (G : Gen) (d : Nat) (rec : Nat → Cur → List Line × Cur) (c : Cur) : List Line × Cur :=
 if kAe c 9 < 4 then
  ([⟨1, G.vars.getD (kAe (kAb c 9) G.vars.length).toNat kAl, [], (kAi G 6 (kAb (kAb c 9) G.vars.length)).1⟩], (kAi G 6 (kAb (kAb c 9) G.vars.length)).2)
 else if kAe c 9 < 6 then ([⟨2, kAl, [], (kAi G 5 (kAb c 9)).1⟩], (kAi G 5 (kAb c 9)).2)
 else if kAe c 9 = 6 ∧ 0 < d then
  let e := kAi G 4 (kAb c 9)
  let b := rec (1 + (kAe e.2 2).toNat) (kAb e.2 2)
  let c3 := kAb b.2 2
  let z := if kAe b.2 2 = 0 then (⟨4, kAl, [], []⟩ :: (rec 1 c3).1, (rec 1 c3).2) else (([] : List Line), c3)
  (⟨3, kAl, [], e.1⟩ :: (b.1 ++ (z.1 ++ [⟨7, kAl, [], []⟩])), z.2)
 else if kAe c 9 = 7 ∧ 0 < d then
  let b := rec 1 (kAb (kAb c 9) 3)
  (⟨5, kAl, [], [⟨5, 0, kAl⟩, ⟨1, 0, nmI⟩, ⟨0, 1 + kAe (kAb c 9) 3, kAl⟩]⟩ :: (b.1 ++ [⟨1, nmI, [], [⟨2, 0, kAl⟩, ⟨1, 0, nmI⟩, ⟨0, 1, kAl⟩]⟩, ⟨7, kAl, [], []⟩]), b.2)
 else if kAe (kAb c 9) 3 = 0 then ([⟨6, kAl, [], (kAi G 4 (kAb (kAb c 9) 3)).1⟩], (kAi G 4 (kAb (kAb c 9) 3)).2)
 else ([], kAb (kAb c 9) 3)
def kB9 (G : Gen) : Nat → Nat → Cur → List Line × Cur
 | 0, n, c => kBn (stepG G 0 fun _ c => ([], c)) n c
 |d + 1, n, c => kBn (stepG G (d + 1) (kB9 G d)) n c
def smD (x : Line) : Prop := x.name.size ≤ 8 ∧ x.args = [] ∧ x.expr.length ≤ 128 ∧ ∀ t ∈ x.expr, t.name.size ≤ 8
theorem kDq {G : Gen} (hG : kKh G) {n : Nat} (hn : n ≤ 6) {c : Cur} (h : kA6 c) : kA6 (kAi G n c).2 ∧ (∀ t ∈ (kAi G n c).1, t.name.size ≤ 8) ∧ (kAi G n c).1.length ≤ 127 := by
 obtain ⟨a, b, d⟩ := kLr hG 6 n c hn h
 exact ⟨a, b, by have : 2 ^ (6 + 1) = 128 := rfl; omega⟩
theorem kOc {G : Gen} (hG : kKh G) {d B : Nat} {rec : Nat → Cur → List Line × Cur} (hr : 0 < d → ∀ n c, n ≤ 2 → kA6 c → kA6 (rec n c).2 ∧ (∀ x ∈ (rec n c).1, smD x) ∧ (rec n c).1.length ≤ B) (c : Cur) (h : kA6 c) :
  kA6 (stepG G d rec c).2 ∧ (∀ x ∈ (stepG G d rec c).1, smD x) ∧ (stepG G d rec c).1.length ≤ 2 * B + 3 := by
 have e0 : kAl.size = 0 := rfl
 have e1 : nmI.size = 1 := rfl
 have h1 := h.kAb 9
 have one : ∀ x : Line, smD x → ∀ y ∈ [x], smD y := fun x hx y hy => by rw [List.mem_singleton] at hy; rw [hy]; exact hx
 have pl : ∀ k : Int, smD ⟨k, kAl, [], []⟩ := fun k => ⟨by simp only [e0]; omega, rfl, by simp, by simp⟩
 unfold stepG
 split
 ·obtain ⟨a, b, d⟩ := kDq hG (n := 6) (by omega) (h1.kAb G.vars.length)
  exact ⟨a, one _ ⟨hG.vz _ (getD_mem (kJd hG.vs.1)), rfl, by simp only; omega, b⟩, by simp⟩
 ·split
  ·obtain ⟨a, b, d⟩ := kDq hG (n := 5) (by omega) h1
   exact ⟨a, one _ ⟨by simp only [e0]; omega, rfl, by simp only; omega, b⟩, by simp⟩
  ·split
   ·rename_i hd
    obtain ⟨a, b, d'⟩ := kDq hG (n := 4) (by omega) h1
    have hb2 := kCi (kAi G 4 (Go.Proofs.YtdhkhapbldkkdaaGreatDoor.kAb c 9)).2 (n := 2) (by omega)
    obtain ⟨p, q, r⟩ := hr hd.2 (1 + (kAe (kAi G 4 (Go.Proofs.YtdhkhapbldkkdaaGreatDoor.kAb c 9)).2 2).toNat) _ (by omega) (a.kAb 2)
    have hx : smD ⟨3, kAl, [], (kAi G 4 (Go.Proofs.YtdhkhapbldkkdaaGreatDoor.kAb c 9)).1⟩ := ⟨by simp only [e0]; omega, rfl, by simp only; omega, b⟩
    have p3 := p.kAb 2
    obtain ⟨s, t, u⟩ := hr hd.2 1 _ (by omega) p3
    simp only
    split
    ·refine ⟨s, fun x hx' => ?_, by simp only [List.length_cons, List.length_append, List.length_nil]; omega⟩
     rcases List.mem_cons.1 hx' with hx' | hx'
     ·rw [hx']; exact hx
     rcases List.mem_append.1 hx' with hx' | hx'
     ·exact q x hx'
     rcases List.mem_append.1 hx' with hx' | hx'
     ·rcases List.mem_cons.1 hx' with hx' | hx'
      ·rw [hx']; exact pl 4
      ·exact t x hx'
     ·exact one _ (pl 7) x hx'
    ·refine ⟨p3, fun x hx' => ?_, by simp only [List.length_cons, List.length_append, List.length_nil]; omega⟩
     rcases List.mem_cons.1 hx' with hx' | hx'
     ·rw [hx']; exact hx
     rcases List.mem_append.1 hx' with hx' | hx'
     ·exact q x hx'
     ·exact one _ (pl 7) x hx'
   ·split
    ·rename_i hd
     obtain ⟨p, q, r⟩ := hr hd.2 1 _ (by omega) (h1.kAb 3)
     refine ⟨p, fun x hx' => ?_, by simp only [List.length_cons, List.length_append, List.length_nil]; omega⟩
     rcases List.mem_cons.1 hx' with hx' | hx'
     ·rw [hx']
      refine ⟨by simp only [e0]; omega, rfl, by simp, fun t ht => ?_⟩
      simp only [List.mem_cons, List.not_mem_nil, or_false] at ht
      rcases ht with rfl | rfl | rfl <;> simp only [e0, e1] <;> omega
     rcases List.mem_append.1 hx' with hx' | hx'
     ·exact q x hx'
     ·rcases List.mem_cons.1 hx' with hx' | hx'
      ·rw [hx']
       refine ⟨by simp only [e1]; omega, rfl, by simp, fun t ht => ?_⟩
       simp only [List.mem_cons, List.not_mem_nil, or_false] at ht
       rcases ht with rfl | rfl | rfl <;> simp only [e0, e1] <;> omega
      ·exact one _ (pl 7) x hx'
    ·split
     ·obtain ⟨a, b, d'⟩ := kDq hG (n := 4) (by omega) (h1.kAb 3)
      exact ⟨a, one _ ⟨by simp only [e0]; omega, rfl, by simp only; omega, b⟩, by simp⟩
     ·exact ⟨h1.kAb 3, by simp, by simp⟩
def bdG : Nat → Nat
 | 0 => 3
 |d + 1 => 2 * (2 * bdG d) + 3
theorem kJy {G : Gen} (hG : kKh G) : ∀ (d n : Nat) (c : Cur), kA6 c → kA6 (kB9 G d n c).2 ∧ (∀ x ∈ (kB9 G d n c).1, smD x) ∧ (kB9 G d n c).1.length ≤ n * bdG d
 | 0, n, c, h => kG5 (fun c hc => kOc hG (B := 0) (fun h => absurd h (by omega)) c hc) n c h
 |d + 1, n, c, h => kG5 (fun c hc => kOc hG (B := 2 * bdG d) (fun _ n c hn hc => by
   obtain ⟨a, b, e⟩ := kJy hG d n c hc
   exact ⟨a, b, Nat.le_trans e (Nat.mul_le_mul_right _ hn)⟩) c hc) n c h
def nms4 : List ByteArray := [⟨#[109, 97, 105, 110]⟩, ⟨#[102]⟩, ⟨#[103, 103]⟩, ⟨#[104]⟩]
def ars4 : List Int := [0, 1, 2, 1]
def xy2 : List ByteArray := [⟨#[120]⟩, ⟨#[121]⟩]
def kGt (k : Nat) : List ByteArray := xy2.take (ars4.getD k 0).toNat
def cut2 {α : Type} (L : List α) (a b : Nat) : List α := (L.drop a).take (b - a)
def genG (n k from_ : Nat) : Gen := ⟨kGt k ++ [nmI, ⟨#[122]⟩], cut2 nms4 from_ n, cut2 ars4 from_ n⟩
def funG (n k : Nat) (c : Cur) : List Line × Cur :=
 let o := if 0 < k then (if kAe c 5 = 0 then k else k + 1, kAb c 5) else (k + 1, c)
 let G := genG n k o.1
 let b := kB9 G (1 + (kAe (kAb o.2 4) 2).toNat) (1 + (kAe o.2 4).toNat) (kAb (kAb o.2 4) 2)
 let e := kAi G 3 b.2
 (⟨0, nms4.getD k kAl, kGt k, []⟩ :: (b.1 ++ [⟨6, kAl, [], e.1⟩, ⟨7, kAl, [], []⟩]), e.2)
def kD0 (n : Nat) : Nat → Cur → List Line × Cur
 | 0, c => ([], c)
 |k + 1, c => ((kD0 n k c).1 ++ (funG n k (kD0 n k c).2).1, (funG n k (kD0 n k c).2).2)
def kK4 (c : Cur) : List Line × Cur := kD0 (1 + (kAe c 4).toNat) (1 + (kAe c 4).toNat) (kAb c 4)
end Go.Proofs.YtdhkhapbldkkdaaGreatDoor

namespace Go.Proofs.YtdhkhapbldkkdaaGreatDoor
open Go.Vc
attribute [local irreducible] Go.Vc.WP
attribute [local go_sem] kAr kAs
attribute [local go_sem] kBc kA4
def stkA (args : List SV) (i : Nat) : List Node := match args[i]? with
 |some (.agg [.sl _ rows]) => kQg rows
 | _ => []
theorem k00 {N : List Node} {k : Nat} {x : Node} (h : frOk (kD9 x) = false) : kEi N k x = false := by
 cases hs : kEi N k x with
 |false => rfl
 |true => rw [(kDk.1 hs).2.2.1] at h; cases h
theorem k50 {N : List Node} {k : Nat} {x : Node} (h : x.parent < -1 ∨ (k : Int) - 1 < x.parent) : kEi N k x = false := by
 cases hs : kEi N k x with
 |false => rfl
 |true => have := kDk.1 hs; omega
def kGc : Ctr := pur (fun args => kIh (aC args 0)) (fun f => [.agg (kAo f)]) (fun f => f.name.size ≤ 1099511627776) (fun _ f => .v (.bool (frOk f))) (fun _ _ => [])
section
noncomputable def k51 : Cx := { P := Tryz.prog, tys := tys, C := [(116, kCf), (41, k60)], hty := kAp, hC := COk.cons kOq (COk.cons c60 (COk.nil _)) }
theorem qF4 : k51.tys = tys := rfl
theorem qF5 : k51.C = [(116, kCf), (41, k60)] := rfl
attribute [local go_sem] qF4 qF5 kCf k60
theorem k8r : Cn Tryz.prog 124 kGc := by
 refine Cn.pur Tryz.func124 (by kernel_rfl) rfl fun d x hx => ?_
 refine Holds.go (c := k51) Tryz.func124 rfl Tryz.results124 Tryz.ntmps124 (by omega) (by simp) rfl ?_
 intro X0 w0
 (repeat' (first | refine WP.seq ?_ | refine WP.block ?_ | ((first | refine WP.region ?_ | refine WP.kAa ?_ | refine WP.ret ?_ | refine WP.exit ?_ | refine WP.skip ?_ ); simp only [go_sem, kAo]) | refine And.intro ?_ ?_ | intro _))
 all_goals first | omega | skip
 rw [frOk, Bool.and_assoc]
end
section
noncomputable def k52 : Cx := { P := Tryz.prog, tys := tys, C := [(94, kCf), (57, k60)], hty := kAp, hC := COk.cons kR5 (COk.cons c58 (COk.nil _)) }
theorem qF6 : k52.tys = tys := rfl
theorem qF7 : k52.C = [(94, kCf), (57, k60)] := rfl
attribute [local go_sem] qF6 qF7 kCf k60
theorem k9s : Cn Tryz.prog 108 kGc := by
 refine Cn.pur Tryz.func108 (by kernel_rfl) rfl fun d x hx => ?_
 refine Holds.go (c := k52) Tryz.func108 rfl Tryz.results108 Tryz.ntmps108 (by omega) (by simp) rfl ?_
 intro X0 w0
 (repeat' (first | refine WP.seq ?_ | refine WP.block ?_ | ((first | refine WP.region ?_ | refine WP.kAa ?_ | refine WP.ret ?_ | refine WP.exit ?_ | refine WP.skip ?_ ); simp only [go_sem, kAo]) | refine And.intro ?_ ?_ | intro _))
 all_goals first | omega | skip
 rw [frOk, Bool.and_assoc]
end
theorem kBf (a : ByteArray) (b : Int) : kIh [.v (.string a), .v (.int .i64 b)] = ⟨a, b⟩ := rfl
theorem kBe (p : Int) (a : ByteArray) (b : Int) : kLf [.v (.int .i64 p), .v (.string a), .v (.int .i64 b)] = ⟨p, a, b⟩ := rfl
def wfN (N : List Node) : Prop := N.length ≤ 4398046511104 ∧ ∀ x ∈ N, x.name.size ≤ 1099511627776
theorem wfN.nm {N : List Node} (h : wfN N) {k : Nat} (hk : k < N.length) : N[k].name.size ≤ 1099511627776 := h.2 _ (List.getElem_mem hk)
def kFn : Ctr := pur (fun args => stkA args 0) (fun N => [.agg [.sl 3 (N.map kAj)]]) wfN (fun _ N => .v (.bool (kA8 N))) (fun _ _ => [])
attribute [local go_sem] stkA kBf kBe
theorem noFr {N : List Node} {k : Nat} (hk : k < N.length) (h : (N[k].parent < -1 ∨ (k : Int) - 1 < N[k].parent) ∨ frOk ⟨N[k].name, N[k].line⟩ = false) : kA8 N = false := by
 refine kLx hk ?_
 rcases h with h | h
 ·exact k50 h
 ·exact k00 h
theorem node_eq {a b : Node} (h : a.parent = b.parent ∧ a.name = b.name ∧ a.line = b.line) : a = b := by
 obtain ⟨p, n, l⟩ := a
 obtain ⟨p', n', l'⟩ := b
 simp only at h
 obtain ⟨rfl, rfl, rfl⟩ := h
 rfl
theorem k2i {a b : Node} (h : ¬ a.parent = b.parent ∨ ¬ a.name = b.name ∨ ¬ a.line = b.line) : a ≠ b := fun e => by
 subst e
 rcases h with h | h | h <;> exact h rfl
theorem k53 (rows : List (List SV)) {k i : Nat} (h : i < k) : Go.Vc.rowAt (rows.take k) i = Go.Vc.rowAt rows i := by
 unfold Go.Vc.rowAt
 rw [List.getElem?_take_of_lt h]
section
noncomputable def k54 : Cx := { P := Tryz.prog, tys := tys, C := [(108, kGc), (57, k60)], hty := kAp, hC := COk.cons k9s (COk.cons c58 (COk.nil _)) }
theorem qF8 : k54.tys = tys := rfl
theorem qF9 : k54.C = [(108, kGc), (57, k60)] := rfl
attribute [local go_sem] qF8 qF9 kGc k60
theorem k9p : Cn Tryz.prog 56 kFn := by
 refine Cn.pur Tryz.func56 (by kernel_rfl) rfl fun d x hx => ?_
 rename List Node => N
 have hN := hx.1
 refine Holds.go (c := k54) Tryz.func56 rfl Tryz.results56 Tryz.ntmps56 (by omega) (by simp) rfl ?_
 intro X0 w0
 (repeat' (first | refine WP.seq ?_ | refine WP.block ?_ | ((first | refine WP.region ?_ | refine WP.kAa ?_ | refine WP.ret ?_ | refine WP.exit ?_ | refine WP.skip ?_ | refine WP.kAg 11 (by decide +kernel) (by kernel_rfl) ?_); simp only [go_sem]) | refine And.intro ?_ ?_ | intro _))
 refine WP.loop (fun k : Nat => ⟨[(1, .ptr 1 0 0 0), (3, .v (.int .i64 k))], [(1, .box 36 [.sl 3 (N.map kAj)])]⟩) (fun k => k ≤ N.length ∧ ∀ j (hj : j < N.length), j < k → kEi N j N[j] = true) (fun k => N.length - k) 0 (by simp) ?_ ?_
 ·(simp only [go_sem] <;> (first | (and_intros <;> rfl) | simp))
 intro k ⟨hk, hf⟩
 by_cases hlt : k < N.length
 ·have h1 := kAd kAj N k hlt
  have hnm := hx.nm hlt
  (repeat' (first | refine WP.seq ?_ | refine WP.block ?_ | ((first | refine WP.region ?_ | refine WP.kAa ?_ | refine WP.ret ?_ | refine WP.exit ?_ | refine WP.skip ?_ | refine WP.kAg 11 (by decide +kernel) (by kernel_rfl) ?_); simp only [go_sem, h1, kAj, kAo]) | refine And.intro ?_ ?_ | intro _))
  all_goals first | omega | skip
  ·rename_i h
   rw [noFr hlt h]
  rename_i h
  refine WP.loop (fun i : Nat => ⟨[(1, .ptr 1 0 0 0), (3, .v (.int .i64 k)), (4, .v (.int .i64 i))], [(1, .box 36 [.sl 3 (N.map kAj)])]⟩) (fun i => i ≤ k ∧ ∀ j (hj : j < N.length), j < i → N[j] ≠ N[k]) (fun i => k - i) 0 (by simp) ?_ ?_
  ·(simp only [go_sem] <;> (first | (and_intros <;> rfl) | simp))
  intro i ⟨hi, hg⟩
  by_cases hlt2 : i < k
  ·have h2 := kAd kAj N i (by omega)
   (repeat' (first | refine WP.seq ?_ | refine WP.block ?_ | ((first | refine WP.region ?_ | refine WP.kAa ?_ | refine WP.ret ?_ | refine WP.exit ?_ | refine WP.skip ?_ | refine WP.kAg 11 (by decide +kernel) (by kernel_rfl) ?_); simp only [go_sem, h1, h2, kAj]) | refine And.intro ?_ ?_ | intro _))
   all_goals first | omega | skip
   ·rename_i he
    rw [kLx hlt (kK7 hlt hlt2 (node_eq he))]
   ·rename_i he
    refine ⟨i + 1, ⟨by omega, fun j hj hji => ?_⟩, by omega, by (first | (and_intros <;> rfl) | simp)⟩
    rcases Nat.lt_or_ge j i with hh | hh
    ·exact hg j hj hh
    ·have : j = i := by omega
     subst this
     exact k2i he
  ·(repeat' (first | refine WP.seq ?_ | refine WP.block ?_ | ((first | refine WP.region ?_ | refine WP.kAa ?_ | refine WP.ret ?_ | refine WP.exit ?_ | refine WP.skip ?_ | refine WP.kAg 11 (by decide +kernel) (by kernel_rfl) ?_); simp only [go_sem]) | refine And.intro ?_ ?_ | intro _))
   all_goals first | omega | skip
   refine ⟨k + 1, ⟨by omega, fun j hj hjk => ?_⟩, by omega, by (first | (and_intros <;> rfl) | simp)⟩
   rcases Nat.lt_or_ge j k with hh | hh
   ·exact hf j hj hh
   ·have : j = k := by omega
    subst this
    exact kVy h.1.1 h.1.2 h.2 fun i hi hij => hg i hi (by omega)
 ·(repeat' (first | refine WP.seq ?_ | refine WP.block ?_ | ((first | refine WP.region ?_ | refine WP.kAa ?_ | refine WP.ret ?_ | refine WP.exit ?_ | refine WP.skip ?_ | refine WP.kAg 11 (by decide +kernel) (by kernel_rfl) ?_); simp only [go_sem]) | refine And.intro ?_ ?_ | intro _))
  all_goals first | omega | skip
  rw [kLt fun j hj => hf j hj (by omega)]
end
section
noncomputable def k55 : Cx := { P := Tryz.prog, tys := tys, C := [(124, kGc), (41, k60)], hty := kAp, hC := COk.cons k8r (COk.cons c60 (COk.nil _)) }
theorem qGa : k55.tys = tys := rfl
theorem qGb : k55.C = [(124, kGc), (41, k60)] := rfl
attribute [local go_sem] qGa qGb kGc k60
theorem k9r : Cn Tryz.prog 73 kFn := by
 refine Cn.pur Tryz.func73 (by kernel_rfl) rfl fun d x hx => ?_
 rename List Node => N
 have hN := hx.1
 refine Holds.go (c := k55) Tryz.func73 rfl Tryz.results73 Tryz.ntmps73 (by omega) (by simp) rfl ?_
 intro X0 w0
 (repeat' (first | refine WP.seq ?_ | refine WP.block ?_ | ((first | refine WP.region ?_ | refine WP.kAa ?_ | refine WP.ret ?_ | refine WP.exit ?_ | refine WP.skip ?_ ); simp only [go_sem]) | refine And.intro ?_ ?_ | intro _))
 all_goals first | omega | skip
 refine WP.loop (fun k : Nat => ⟨[(1, .ptr 1 0 0 0), (8, .sl 3 (N.map kAj)), (9, .v (.int .i64 N.length)), (10, .v (.int .i64 k))], [(1, .box 36 [.sl 3 (N.map kAj)])]⟩) (fun k => k ≤ N.length ∧ ∀ j (hj : j < N.length), j < k → kEi N j N[j] = true) (fun k => N.length - k) 0 (by simp) ?_ ?_
 ·(simp only [go_sem] <;> (first | (and_intros <;> rfl) | simp))
 intro k ⟨hk, hf⟩
 by_cases hlt : k < N.length
 ·have h1 := kAd kAj N k hlt
  have hnm := hx.nm hlt
  (repeat' (first | refine WP.seq ?_ | refine WP.block ?_ | ((first | refine WP.region ?_ | refine WP.kAa ?_ | refine WP.ret ?_ | refine WP.exit ?_ | refine WP.skip ?_ ); simp only [go_sem, h1, kAj, kAo]) | refine And.intro ?_ ?_ | intro _))
  all_goals first | omega | skip
  ·rename_i h
   rw [noFr hlt h]
  rename_i h
  have hl : ((N.map kAj).take k).length = k := by rw [List.length_take, List.length_map]; omega
  refine WP.loop (fun i : Nat => ⟨[(1, .ptr 1 0 0 0), (4, .ptr 4 0 0 0), (8, .sl 3 (N.map kAj)), (9, .v (.int .i64 N.length)), (10, .v (.int .i64 k)), (30, .sl 3 ((N.map kAj).take k)), (31, .v (.int .i64 k)), (32, .v (.int .i64 i))], [(1, .box 36 [.sl 3 (N.map kAj)]), (4, .box 151 (kAj N[k]))]⟩) (fun i => i ≤ k ∧ ∀ j (hj : j < N.length), j < i → N[j] ≠ N[k]) (fun i => k - i) 0 (by simp) ?_ ?_
  ·(simp only [go_sem, hl, kAj] <;> (first | (and_intros <;> rfl) | simp))
  intro i ⟨hi, hg⟩
  by_cases hlt2 : i < k
  ·have h2 := kAd kAj N i (by omega)
   have h3 := k53 (N.map kAj) hlt2
   rw [h2] at h3
   (repeat' (first | refine WP.seq ?_ | refine WP.block ?_ | ((first | refine WP.region ?_ | refine WP.kAa ?_ | refine WP.ret ?_ | refine WP.exit ?_ | refine WP.skip ?_ ); simp only [go_sem, h1, h3, hl, kAj]) | refine And.intro ?_ ?_ | intro _))
   all_goals first | omega | skip
   ·rename_i he
    rw [kLx hlt (kK7 hlt hlt2 (node_eq ⟨he.1.symm, he.2.1.symm, he.2.2.symm⟩))]
   ·rename_i he
    refine ⟨i + 1, ⟨by omega, fun j hj hji => ?_⟩, by omega, by (first | (and_intros <;> rfl) | simp)⟩
    rcases Nat.lt_or_ge j i with hh | hh
    ·exact hg j hj hh
    ·have : j = i := by omega
     subst this
     exact Ne.symm (k2i he)
  ·(repeat' (first | refine WP.seq ?_ | refine WP.block ?_ | ((first | refine WP.region ?_ | refine WP.kAa ?_ | refine WP.ret ?_ | refine WP.exit ?_ | refine WP.skip ?_ ); simp only [go_sem]) | refine And.intro ?_ ?_ | intro _))
   all_goals first | omega | skip
   refine ⟨k + 1, ⟨by omega, fun j hj hjk => ?_⟩, by omega, by (first | (and_intros <;> rfl) | simp)⟩
   rcases Nat.lt_or_ge j k with hh | hh
   ·exact hf j hj hh
   ·have : j = k := by omega
    subst this
    exact kVy h.1.1 h.1.2 h.2 fun i hi hij => hg i hi (by omega)
 ·(repeat' (first | refine WP.seq ?_ | refine WP.block ?_ | ((first | refine WP.region ?_ | refine WP.kAa ?_ | refine WP.ret ?_ | refine WP.exit ?_ | refine WP.skip ?_ ); simp only [go_sem]) | refine And.intro ?_ ?_ | intro _))
  all_goals first | omega | skip
  rw [kLt fun j hj => hf j hj (by omega)]
end
def kT7 : Ctr := pur (fun args => (stkA args 0, aI args 1, kIh (aC args 2))) (fun x => [.agg [.sl 3 (x.1.map kAj)], .v (.int .i64 x.2.1), .agg (kAo x.2.2)]) (fun x => x.1.length ≤ 4398046511104) (fun _ x => .v (.int .i64 (child x.1 x.2.1 x.2.2))) (fun _ _ => [])
theorem qGc {N : List Node} {p : Int} {f : Frame} {k : Nat} (hk : k < N.length) (hf : ∀ j (hj : j < N.length), j < k → kHh p f N[j] = false) (h : N[k].parent = p ∧ N[k].name = f.name ∧ N[k].line = f.line) : child N p f = k :=
 kF1 hk hf (by
  obtain ⟨a, b⟩ := f
  simp only at h
  simp [kHh, kD9, h])
theorem hit_no {p : Int} {f : Frame} {x : Node} (h : ¬ x.parent = p ∨ ¬ x.name = f.name ∨ ¬ x.line = f.line) : kHh p f x = false := by
 obtain ⟨a, b⟩ := f
 simp only at h
 simp only [kHh, kD9, Bool.and_eq_false_iff, decide_eq_false_iff_not, Frame.mk.injEq, not_and]
 rcases h with h | h | h
 ·exact .inl h
 ·exact .inr fun e => absurd e h
 ·exact .inr fun _ => h
theorem qGd : Cn Tryz.prog 154 kT7 := by
 refine Cn.pur Tryz.func154 (by kernel_rfl) rfl fun d x hx => ?_
 obtain ⟨N, p, f⟩ := x
 simp only at hx ⊢
 refine Holds.go (c := cx0) Tryz.func154 rfl Tryz.results154 Tryz.ntmps154 (by omega) (by simp) rfl ?_
 intro X0 w0
 (repeat' (first | refine WP.seq ?_ | refine WP.block ?_ | ((first | refine WP.region ?_ | refine WP.kAa ?_ | refine WP.ret ?_ | refine WP.exit ?_ | refine WP.skip ?_ | refine WP.kAg 18 (by decide +kernel) (by kernel_rfl) ?_); simp only [go_sem, kAo]) | refine And.intro ?_ ?_ | intro _))
 all_goals first | omega | skip
 refine WP.loop (fun k : Nat => ⟨[(1, .v (.int .i64 p)), (3, .ptr 3 0 0 0), (5, .ptr 5 0 0 0), (7, .v (.int .i64 k))], [(3, .box 36 [.sl 3 (N.map kAj)]), (5, .box 89 (kAo f))]⟩) (fun k => k ≤ N.length ∧ ∀ j (hj : j < N.length), j < k → kHh p f N[j] = false) (fun k => N.length - k) 0 (by simp) ?_ ?_
 ·(simp only [go_sem, kAo] <;> (first | (and_intros <;> rfl) | simp))
 intro k ⟨hk, hf⟩
 by_cases hlt : k < N.length
 ·have h1 := kAd kAj N k hlt
  (repeat' (first | refine WP.seq ?_ | refine WP.block ?_ | ((first | refine WP.region ?_ | refine WP.kAa ?_ | refine WP.ret ?_ | refine WP.exit ?_ | refine WP.skip ?_ | refine WP.kAg 18 (by decide +kernel) (by kernel_rfl) ?_); simp only [go_sem, h1, kAj, kAo]) | refine And.intro ?_ ?_ | intro _))
  all_goals first | omega | skip
  ·rename_i he
   rw [qGc hlt hf he]
  ·rename_i he
   refine ⟨k + 1, ⟨by omega, fun j hj hji => ?_⟩, by omega, by (first | (and_intros <;> rfl) | simp)⟩
   rcases Nat.lt_or_ge j k with hh | hh
   ·exact hf j hj hh
   ·have : j = k := by omega
    subst this
    exact hit_no he
 ·(repeat' (first | refine WP.seq ?_ | refine WP.block ?_ | ((first | refine WP.region ?_ | refine WP.kAa ?_ | refine WP.ret ?_ | refine WP.exit ?_ | refine WP.skip ?_ | refine WP.kAg 18 (by decide +kernel) (by kernel_rfl) ?_); simp only [go_sem]) | refine And.intro ?_ ?_ | intro _))
  all_goals first | omega | skip
  rw [show child N p f = -1 from firstIdx_none fun i hi => hf i hi (by omega)]
theorem kT4 {N : List Node} {row : List SV} (h : row ∈ N.map kAj) : row.length = 3 := by
 obtain ⟨x, _, rfl⟩ := List.mem_map.1 h; rfl
theorem qGe {N : List Frame} {row : List SV} (h : row ∈ N.map kAo) : row.length = 2 := by
 obtain ⟨x, _, rfl⟩ := List.mem_map.1 h; rfl
theorem rlI {N : List Int} {row : List SV} (h : row ∈ N.map encI) : row.length = 1 := by
 obtain ⟨x, _, rfl⟩ := List.mem_map.1 h; rfl
def kIo : Ctr := pur (fun args => stkA args 0) (fun N => [.agg [.sl 3 (N.map kAj)]]) (fun N => N.length ≤ 4398046511104) (fun d _ => .agg [.own d]) (fun d N => [(d, .sl 151 3 (N.map kAj))])
theorem kWn : Cn Tryz.prog 153 kIo := by
 refine Cn.pur Tryz.func153 (by kernel_rfl) rfl fun d x hx => ?_
 rename List Node => N
 refine Holds.go (c := cx0) Tryz.func153 rfl Tryz.results153 Tryz.ntmps153 (by omega) (by simp) rfl ?_
 intro X0 w0
 (repeat' (first | refine WP.seq ?_ | refine WP.block ?_ | ((first | refine WP.region ?_ | refine WP.kAa ?_ | refine WP.ret ?_ | refine WP.exit ?_ | refine WP.skip ?_ ); simp only [go_sem]) | refine And.intro ?_ ?_ | intro _))
 all_goals first | omega | exact kT4 ‹_› | exact ⟨_, _, rfl, _, _, rfl, rfl⟩ | skip
end Go.Proofs.YtdhkhapbldkkdaaGreatDoor

namespace Go.Proofs
open Go.Shelf
def Tryz.qAm : Go.Shelf.Ren := ⟨fun | 106 => 92 | 213 => 138 | 265 => 165 | n => n, fun | 9 => 9 | 3 => 3 | n => n, fun | n => n⟩
theorem Tryz.l106 : Go.Proofs.Lays.n106 Tryz.prog Tryz.qAm := {
 mixed := by kernel_rfl
 f106 := Tryz.func92.trans (congrArg some (by kernel_rfl))
 f213 := Tryz.func138.trans (congrArg some (by kernel_rfl))
 f265 := Tryz.func165.trans (congrArg some (by kernel_rfl))
 t3 := Tryz.underlying3
 a3 := Tryz.isAgg3
 z3 := Tryz.sizeOf3
 v3 := Tryz.zeroValue3
 t9 := Tryz.underlying9
 a9 := Tryz.isAgg9
 z9 := Tryz.sizeOf9
 v9 := Tryz.zeroValue9 }
def Tryz.kV4 : Go.Shelf.Ren := ⟨fun | 143 => 168 | 219 => 141 | 217 => 170 | 225 => 171 | 224 => 172 | 267 => 173 | 266 => 189 | 314 => 190 | n => n, fun | 9 => 9 | 3 => 3 | 4 => 4 | 5 => 5 | 46 => 177 | 146 => 222 | 51 => 199 | n => n, fun | 1 => 0 | n => n⟩
theorem Tryz.lM143 : Go.Proofs.LaysM.n143 Tryz.prog Tryz.kV4 := {
 mixed := by kernel_rfl
 f143 := Tryz.func168.trans (congrArg some (by kernel_rfl))
 f217 := Tryz.func170.trans (congrArg some (by kernel_rfl))
 f219 := Tryz.func141.trans (congrArg some (by kernel_rfl))
 f224 := Tryz.func172.trans (congrArg some (by kernel_rfl))
 f225 := Tryz.func171.trans (congrArg some (by kernel_rfl))
 f266 := Tryz.func189.trans (congrArg some (by kernel_rfl))
 f267 := Tryz.func173.trans (congrArg some (by kernel_rfl))
 f314 := Tryz.func190.trans (congrArg some (by kernel_rfl))
 t3 := Tryz.underlying3
 a3 := Tryz.isAgg3
 z3 := Tryz.sizeOf3
 v3 := Tryz.zeroValue3
 t4 := Tryz.underlying4
 a4 := Tryz.isAgg4
 z4 := Tryz.sizeOf4
 v4 := Tryz.zeroValue4
 t5 := Tryz.underlying5
 a5 := Tryz.isAgg5
 z5 := Tryz.sizeOf5
 v5 := Tryz.zeroValue5
 t9 := Tryz.underlying9
 a9 := Tryz.isAgg9
 z9 := Tryz.sizeOf9
 v9 := Tryz.zeroValue9
 t46 := Tryz.underlying177
 a46 := Tryz.isAgg177
 z46 := Tryz.sizeOf177
 v46 := Tryz.zeroValue177
 t51 := Tryz.underlying199
 a51 := Tryz.isAgg199
 z51 := Tryz.sizeOf199
 v51 := Tryz.zeroValue199
 t146 := Tryz.underlying222
 a146 := Tryz.isAgg222
 z146 := Tryz.sizeOf222
 v146 := Tryz.zeroValue222
 g1 := by kernel_rfl
 i3 := by kernel_rfl
 i4 := by kernel_rfl
 i5 := by kernel_rfl
 i9 := by kernel_rfl
 i46 := by kernel_rfl
 i51 := by kernel_rfl
 i146 := by kernel_rfl
 m1 := by kernel_rfl
 s1_3 := fun w h => Go.Proofs.cell_of_shapedOpen_int (zero := #[.int .i64 0]) (t := 3) h (of_decide_eq_true (by kernel_rfl)) (by kernel_rfl) rfl (by kernel_rfl) (by kernel_rfl) Tryz.underlying3 }
def Tryz.kV5 : Go.Shelf.Ren := ⟨fun | 145 => 49 | 220 => 101 | 219 => 141 | 217 => 170 | 225 => 171 | 224 => 172 | 267 => 173 | 266 => 189 | 314 => 190 | n => n, fun | 9 => 9 | 4 => 4 | 59 => 95 | 3 => 3 | 5 => 5 | 46 => 177 | 146 => 222 | 51 => 199 | n => n, fun | 1 => 0 | n => n⟩
theorem Tryz.lM145 : Go.Proofs.LaysM.n145 Tryz.prog Tryz.kV5 := {
 mixed := by kernel_rfl
 f145 := Tryz.func49.trans (congrArg some (by kernel_rfl))
 f217 := Tryz.func170.trans (congrArg some (by kernel_rfl))
 f219 := Tryz.func141.trans (congrArg some (by kernel_rfl))
 f220 := Tryz.func101.trans (congrArg some (by kernel_rfl))
 f224 := Tryz.func172.trans (congrArg some (by kernel_rfl))
 f225 := Tryz.func171.trans (congrArg some (by kernel_rfl))
 f266 := Tryz.func189.trans (congrArg some (by kernel_rfl))
 f267 := Tryz.func173.trans (congrArg some (by kernel_rfl))
 f314 := Tryz.func190.trans (congrArg some (by kernel_rfl))
 t3 := Tryz.underlying3
 a3 := Tryz.isAgg3
 z3 := Tryz.sizeOf3
 v3 := Tryz.zeroValue3
 t4 := Tryz.underlying4
 a4 := Tryz.isAgg4
 z4 := Tryz.sizeOf4
 v4 := Tryz.zeroValue4
 t5 := Tryz.underlying5
 a5 := Tryz.isAgg5
 z5 := Tryz.sizeOf5
 v5 := Tryz.zeroValue5
 t9 := Tryz.underlying9
 a9 := Tryz.isAgg9
 z9 := Tryz.sizeOf9
 v9 := Tryz.zeroValue9
 t46 := Tryz.underlying177
 a46 := Tryz.isAgg177
 z46 := Tryz.sizeOf177
 v46 := Tryz.zeroValue177
 t51 := Tryz.underlying199
 a51 := Tryz.isAgg199
 z51 := Tryz.sizeOf199
 v51 := Tryz.zeroValue199
 t59 := Tryz.underlying95
 a59 := Tryz.isAgg95
 z59 := Tryz.sizeOf95
 v59 := Tryz.zeroValue95
 t146 := Tryz.underlying222
 a146 := Tryz.isAgg222
 z146 := Tryz.sizeOf222
 v146 := Tryz.zeroValue222
 g1 := by kernel_rfl
 i3 := by kernel_rfl
 i4 := by kernel_rfl
 i5 := by kernel_rfl
 i9 := by kernel_rfl
 i46 := by kernel_rfl
 i51 := by kernel_rfl
 i59 := by kernel_rfl
 i146 := by kernel_rfl
 m1 := by kernel_rfl
 s1_3 := fun w h => Go.Proofs.cell_of_shapedOpen_int (zero := #[.int .i64 0]) (t := 3) h (of_decide_eq_true (by kernel_rfl)) (by kernel_rfl) rfl (by kernel_rfl) (by kernel_rfl) Tryz.underlying3 }
def Tryz.kV6 : Go.Shelf.Ren := ⟨fun | 146 => 93 | 221 => 139 | 268 => 166 | 138 => 167 | 143 => 168 | 195 => 186 | 197 => 187 | 218 => 188 | 219 => 141 | 260 => 196 | 217 => 170 | 225 => 171 | 224 => 172 | 267 => 173 | 266 => 189 | 314 => 190 | n => n, fun | 9 => 9 | 31 => 57 | 3 => 3 | 4 => 4 | 0 => 0 | 105 => 220 | 21 => 21 | 5 => 5 | 46 => 177 | 119 => 230 | 139 => 233 | 138 => 232 | 146 => 222 | 51 => 199 | n => n, fun | 1 => 0 | 3 => 2 | 4 => 3 | n => n⟩
theorem Tryz.k4a : Go.Proofs.LaysM.n146 Tryz.prog Tryz.kV6 := {
 mixed := by kernel_rfl
 f138 := Tryz.func167.trans (congrArg some (by kernel_rfl))
 f143 := Tryz.func168.trans (congrArg some (by kernel_rfl))
 f146 := Tryz.func93.trans (congrArg some (by kernel_rfl))
 f195 := Tryz.func186.trans (congrArg some (by kernel_rfl))
 f197 := Tryz.func187.trans (congrArg some (by kernel_rfl))
 f217 := Tryz.func170.trans (congrArg some (by kernel_rfl))
 f218 := Tryz.func188.trans (congrArg some (by kernel_rfl))
 f219 := Tryz.func141.trans (congrArg some (by kernel_rfl))
 f221 := Tryz.func139.trans (congrArg some (by kernel_rfl))
 f224 := Tryz.func172.trans (congrArg some (by kernel_rfl))
 f225 := Tryz.func171.trans (congrArg some (by kernel_rfl))
 f260 := Tryz.func196.trans (congrArg some (by kernel_rfl))
 f266 := Tryz.func189.trans (congrArg some (by kernel_rfl))
 f267 := Tryz.func173.trans (congrArg some (by kernel_rfl))
 f268 := Tryz.func166.trans (congrArg some (by kernel_rfl))
 f314 := Tryz.func190.trans (congrArg some (by kernel_rfl))
 t0 := Tryz.underlying0
 a0 := Tryz.isAgg0
 z0 := Tryz.sizeOf0
 v0 := Tryz.zeroValue0
 t3 := Tryz.underlying3
 a3 := Tryz.isAgg3
 z3 := Tryz.sizeOf3
 v3 := Tryz.zeroValue3
 t4 := Tryz.underlying4
 a4 := Tryz.isAgg4
 z4 := Tryz.sizeOf4
 v4 := Tryz.zeroValue4
 t5 := Tryz.underlying5
 a5 := Tryz.isAgg5
 z5 := Tryz.sizeOf5
 v5 := Tryz.zeroValue5
 t9 := Tryz.underlying9
 a9 := Tryz.isAgg9
 z9 := Tryz.sizeOf9
 v9 := Tryz.zeroValue9
 t21 := Tryz.underlying21
 a21 := Tryz.isAgg21
 z21 := Tryz.sizeOf21
 v21 := Tryz.zeroValue21
 t31 := Tryz.underlying57
 a31 := Tryz.isAgg57
 z31 := Tryz.sizeOf57
 v31 := Tryz.zeroValue57
 t46 := Tryz.underlying177
 a46 := Tryz.isAgg177
 z46 := Tryz.sizeOf177
 v46 := Tryz.zeroValue177
 t51 := Tryz.underlying199
 a51 := Tryz.isAgg199
 z51 := Tryz.sizeOf199
 v51 := Tryz.zeroValue199
 t105 := Tryz.underlying220
 a105 := Tryz.isAgg220
 z105 := Tryz.sizeOf220
 v105 := Tryz.zeroValue220
 t119 := Tryz.underlying230
 a119 := Tryz.isAgg230
 z119 := Tryz.sizeOf230
 t138 := Tryz.underlying232
 a138 := Tryz.isAgg232
 z138 := Tryz.sizeOf232
 v138 := Tryz.zeroValue232
 t139 := Tryz.underlying233
 a139 := Tryz.isAgg233
 z139 := Tryz.sizeOf233
 v139 := Tryz.zeroValue233
 t146 := Tryz.underlying222
 a146 := Tryz.isAgg222
 z146 := Tryz.sizeOf222
 v146 := Tryz.zeroValue222
 g1 := by kernel_rfl
 g3 := by kernel_rfl
 g4 := by kernel_rfl
 i0 := by kernel_rfl
 i3 := by kernel_rfl
 i4 := by kernel_rfl
 i5 := by kernel_rfl
 i9 := by kernel_rfl
 i21 := by kernel_rfl
 i31 := by kernel_rfl
 i46 := by kernel_rfl
 i51 := by kernel_rfl
 i105 := by kernel_rfl
 i138 := by kernel_rfl
 i139 := by kernel_rfl
 i146 := by kernel_rfl
 m1 := by kernel_rfl
 s1_3 := fun w h => Go.Proofs.cell_of_shapedOpen_int (zero := #[.int .i64 0]) (t := 3) h (of_decide_eq_true (by kernel_rfl)) (by kernel_rfl) rfl (by kernel_rfl) (by kernel_rfl) Tryz.underlying3
 m3 := by kernel_rfl
 m4 := by kernel_rfl }
def Tryz.k8f : Go.Shelf.Ren := ⟨fun | 171 => 74 | 243 => 125 | 246 => 148 | 283 => 175 | 284 => 176 | 285 => 177 | 286 => 178 | 129 => 164 | 317 => 191 | 318 => 192 | 319 => 193 | 320 => 194 | 337 => 197 | 338 => 198 | n => n, fun | 3 => 3 | 9 => 9 | 2 => 2 | 4 => 4 | 171 => 206 | 0 => 0 | 53 => 201 | 37 => 43 | 5 => 5 | 173 => 208 | 212 => 225 | 51 => 199 | 20 => 20 | 213 => 226 | 46 => 177 | 232 => 234 | 233 => 235 | n => n, fun | 17 => 1 | 18 => 4 | 19 => 5 | n => n⟩
theorem Tryz.lM171 : Go.Proofs.LaysM.n171 Tryz.prog Tryz.k8f := {
 mixed := by kernel_rfl
 f129 := Tryz.func164.trans (congrArg some (by kernel_rfl))
 f171 := Tryz.func74.trans (congrArg some (by kernel_rfl))
 f243 := Tryz.func125.trans (congrArg some (by kernel_rfl))
 f246 := Tryz.func148.trans (congrArg some (by kernel_rfl))
 f283 := Tryz.func175.trans (congrArg some (by kernel_rfl))
 f284 := Tryz.func176.trans (congrArg some (by kernel_rfl))
 f285 := Tryz.func177.trans (congrArg some (by kernel_rfl))
 f286 := Tryz.func178.trans (congrArg some (by kernel_rfl))
 f317 := Tryz.func191.trans (congrArg some (by kernel_rfl))
 f318 := Tryz.func192.trans (congrArg some (by kernel_rfl))
 f319 := Tryz.func193.trans (congrArg some (by kernel_rfl))
 f320 := Tryz.func194.trans (congrArg some (by kernel_rfl))
 f337 := Tryz.func197.trans (congrArg some (by kernel_rfl))
 f338 := Tryz.func198.trans (congrArg some (by kernel_rfl))
 t0 := Tryz.underlying0
 a0 := Tryz.isAgg0
 z0 := Tryz.sizeOf0
 v0 := Tryz.zeroValue0
 t2 := Tryz.underlying2
 a2 := Tryz.isAgg2
 z2 := Tryz.sizeOf2
 v2 := Tryz.zeroValue2
 t3 := Tryz.underlying3
 a3 := Tryz.isAgg3
 z3 := Tryz.sizeOf3
 v3 := Tryz.zeroValue3
 t4 := Tryz.underlying4
 a4 := Tryz.isAgg4
 z4 := Tryz.sizeOf4
 v4 := Tryz.zeroValue4
 t5 := Tryz.underlying5
 a5 := Tryz.isAgg5
 z5 := Tryz.sizeOf5
 v5 := Tryz.zeroValue5
 t9 := Tryz.underlying9
 a9 := Tryz.isAgg9
 z9 := Tryz.sizeOf9
 v9 := Tryz.zeroValue9
 t20 := Tryz.underlying20
 a20 := Tryz.isAgg20
 z20 := Tryz.sizeOf20
 v20 := Tryz.zeroValue20
 t37 := Tryz.underlying43
 a37 := Tryz.isAgg43
 z37 := Tryz.sizeOf43
 v37 := Tryz.zeroValue43
 t46 := Tryz.underlying177
 a46 := Tryz.isAgg177
 z46 := Tryz.sizeOf177
 v46 := Tryz.zeroValue177
 t51 := Tryz.underlying199
 a51 := Tryz.isAgg199
 z51 := Tryz.sizeOf199
 v51 := Tryz.zeroValue199
 t53 := Tryz.underlying201
 a53 := Tryz.isAgg201
 z53 := Tryz.sizeOf201
 v53 := Tryz.zeroValue201
 t171 := Tryz.underlying206
 a171 := Tryz.isAgg206
 z171 := Tryz.sizeOf206
 v171 := Tryz.zeroValue206
 t173 := Tryz.underlying208
 a173 := Tryz.isAgg208
 z173 := Tryz.sizeOf208
 v173 := Tryz.zeroValue208
 t212 := Tryz.underlying225
 a212 := Tryz.isAgg225
 z212 := Tryz.sizeOf225
 v212 := Tryz.zeroValue225
 t213 := Tryz.underlying226
 a213 := Tryz.isAgg226
 z213 := Tryz.sizeOf226
 t232 := Tryz.underlying234
 a232 := Tryz.isAgg234
 z232 := Tryz.sizeOf234
 v232 := Tryz.zeroValue234
 t233 := Tryz.underlying235
 a233 := Tryz.isAgg235
 z233 := Tryz.sizeOf235
 v233 := Tryz.zeroValue235
 g17 := by kernel_rfl
 g18 := by kernel_rfl
 g19 := by kernel_rfl
 i0 := by kernel_rfl
 i2 := by kernel_rfl
 i3 := by kernel_rfl
 i4 := by kernel_rfl
 i5 := by kernel_rfl
 i9 := by kernel_rfl
 i20 := by kernel_rfl
 i37 := by kernel_rfl
 i46 := by kernel_rfl
 i51 := by kernel_rfl
 i53 := by kernel_rfl
 i171 := by kernel_rfl
 i173 := by kernel_rfl
 i212 := by kernel_rfl
 i232 := by kernel_rfl
 i233 := by kernel_rfl
 m17 := by kernel_rfl
 m18 := by kernel_rfl
 m19 := by kernel_rfl }
def Tryz.kZf : Go.Shelf.Ren := ⟨fun | 156 => 77 | 165 => 127 | 166 => 128 | 169 => 129 | 240 => 150 | 241 => 151 | 276 => 179 | 277 => 180 | n => n, fun | 31 => 57 | 9 => 9 | 3 => 3 | 4 => 4 | 0 => 0 | 20 => 20 | 72 => 161 | 76 => 165 | 70 => 159 | 37 => 43 | 75 => 164 | 127 => 187 | 164 => 210 | 5 => 5 | 80 => 167 | n => n, fun | n => n⟩
theorem Tryz.l156 : Go.Proofs.Lays.n156 Tryz.prog Tryz.kZf := {
 mixed := by kernel_rfl
 f156 := Tryz.func77.trans (congrArg some (by kernel_rfl))
 f165 := Tryz.func127.trans (congrArg some (by kernel_rfl))
 f166 := Tryz.func128.trans (congrArg some (by kernel_rfl))
 f169 := Tryz.func129.trans (congrArg some (by kernel_rfl))
 f240 := Tryz.func150.trans (congrArg some (by kernel_rfl))
 f241 := Tryz.func151.trans (congrArg some (by kernel_rfl))
 f276 := Tryz.func179.trans (congrArg some (by kernel_rfl))
 f277 := Tryz.func180.trans (congrArg some (by kernel_rfl))
 t0 := Tryz.underlying0
 a0 := Tryz.isAgg0
 z0 := Tryz.sizeOf0
 v0 := Tryz.zeroValue0
 t3 := Tryz.underlying3
 a3 := Tryz.isAgg3
 z3 := Tryz.sizeOf3
 v3 := Tryz.zeroValue3
 t4 := Tryz.underlying4
 a4 := Tryz.isAgg4
 z4 := Tryz.sizeOf4
 v4 := Tryz.zeroValue4
 t9 := Tryz.underlying9
 a9 := Tryz.isAgg9
 z9 := Tryz.sizeOf9
 v9 := Tryz.zeroValue9
 t20 := Tryz.underlying20
 a20 := Tryz.isAgg20
 z20 := Tryz.sizeOf20
 v20 := Tryz.zeroValue20
 t31 := Tryz.underlying57
 a31 := Tryz.isAgg57
 z31 := Tryz.sizeOf57
 v31 := Tryz.zeroValue57
 t37 := Tryz.underlying43
 a37 := Tryz.isAgg43
 z37 := Tryz.sizeOf43
 v37 := Tryz.zeroValue43
 t70 := Tryz.underlying159
 a70 := Tryz.isAgg159
 z70 := Tryz.sizeOf159
 v70 := Tryz.zeroValue159
 t72 := Tryz.underlying161
 a72 := Tryz.isAgg161
 z72 := Tryz.sizeOf161
 v72 := Tryz.zeroValue161
 t75 := Tryz.underlying164
 a75 := Tryz.isAgg164
 z75 := Tryz.sizeOf164
 v75 := Tryz.zeroValue164
 t76 := Tryz.underlying165
 a76 := Tryz.isAgg165
 z76 := Tryz.sizeOf165
 v76 := Tryz.zeroValue165
 t127 := Tryz.underlying187
 a127 := Tryz.isAgg187
 z127 := Tryz.sizeOf187
 v127 := Tryz.zeroValue187
 t164 := Tryz.underlying210
 a164 := Tryz.isAgg210
 z164 := Tryz.sizeOf210
 v164 := Tryz.zeroValue210 }
end Go.Proofs

namespace Go.Proofs.YtdhkhapbldkkdaaGreatDoor
theorem kRt (c : UInt8) : ∀ {l : List UInt8}, c ∉ l → Lib.index l [c] = -1
 | [], _ => rfl
 |b :: l, h => by
  simp only [List.mem_cons, not_or] at h
  unfold Lib.index
  rw [kRt c h.2, if_neg (by simp [List.isPrefixOf]; exact h.1)]
  rfl
theorem kRu (c : UInt8) : ∀ {x : List UInt8} (r : List UInt8), c ∉ x → Lib.index (x ++ c :: r) [c] = x.length
 | [], r, _ => by simp [Lib.index, List.isPrefixOf]
 |b :: x, r, h => by
  simp only [List.mem_cons, not_or] at h
  rw [List.cons_append]
  unfold Lib.index
  rw [kRu c r h.2, if_neg (by simp [List.isPrefixOf]; exact h.1), if_neg (by simp; try omega)]
  simp
theorem kIs (c : UInt8) : ∀ l : List UInt8, c ∉ l ∨ ∃ x r, l = x ++ c :: r ∧ c ∉ x
 | [] => .inl (by simp)
 |b :: l => by
  by_cases hb : b = c
  ·exact .inr ⟨[], l, by rw [hb]; rfl, by simp⟩
  ·rcases kIs c l with h | ⟨x, r, h1, h2⟩
   ·exact .inl (by simp only [List.mem_cons, not_or]; exact ⟨fun e => hb e.symm, h⟩)
   ·exact .inr ⟨b :: x, r, by rw [h1]; rfl, by simp only [List.mem_cons, not_or]; exact ⟨fun e => hb e.symm, h2⟩⟩
theorem kPl (c : UInt8) {l : List UInt8} (h : c ∉ l) : Lib.cut l [c] = (l, [], false) := by
 unfold Lib.cut
 rw [kRt c h, if_neg (by omega)]
theorem kMc (c : UInt8) {x : List UInt8} (r : List UInt8) (h : c ∉ x) : Lib.cut (x ++ c :: r) [c] = (x, r, true) := by
 unfold Lib.cut
 rw [kRu c r h, if_pos (by omega), Int.toNat_natCast]
 simp
def one1 (c : UInt8) : ByteArray := ⟨#[c]⟩
theorem kJx (s : ByteArray) (l : List UInt8) (h : s.data.toList = l) : s = bts l := by rw [← h, kEn]
theorem kS5 (c : UInt8) : ∀ (n : Nat) (s : ByteArray), s.size ≤ n → Lib.splitB (one1 c) 0 (Lib.countB s (one1 c)) s = (cutL c s.data.toList).map bts := by
 intro n
 induction n with
 |zero =>
  intro s hs
  have he : s.data.toList = [] := by
                    apply List.eq_nil_of_length_eq_zero; have : s.data.toList.length = s.size := by simp
                    omega
  have hi : Lib.indexB s (one1 c) = -1 := by unfold Lib.indexB; rw [he]; rfl
  rw [Lib.countB_miss s _ hi, Lib.splitB_zero, he]
  simp only [cutL, List.map_cons, List.map_nil]
  rw [kJx s [] he]
 |succ n ih =>
  intro s hs
  rcases kIs c s.data.toList with h | ⟨x, r, h1, h2⟩
  ·have hi : Lib.indexB s (one1 c) = -1 := kRt c h
   rw [Lib.countB_miss s _ hi, Lib.splitB_zero, kGa c h, List.map_cons, List.map_nil, kEn]
  ·have hi : Lib.indexB s (one1 c) = (x.length : Nat) := by
    unfold Lib.indexB
    rw [h1]; exact kRu c r h2
   have hsz : s.size = x.length + 1 + r.length := by
    have : s.data.toList.length = s.size := by simp
    rw [← this, h1]; simp; omega
   have e1 : (one1 c).size = 1 := rfl
   have hr : s.extract (x.length + 1) s.size = bts r := by
    apply kJx
    rw [ByteArray.data_extract, Array.toList_extract, h1, hsz]
    simp [List.extract]
   have hx : s.extract 0 (x.length + 0) = bts x := by
    apply kJx
    rw [ByteArray.data_extract, Array.toList_extract, h1]
    simp [List.extract]
   rw [Lib.countB_hit s _ x.length (by rw [e1]; omega) hi, Nat.add_comm 1, Lib.splitB_hit _ _ _ _ _ hi, e1, hr, hx, ih (bts r) (by rw [kBb]; omega), h1, kG3 c r h2]
   simp [bts]
theorem k3q (c : UInt8) (s : ByteArray) : (cutL c s.data.toList).length = Lib.countB s (one1 c) + 1 := by
 have h1 := kS5 c s.size s (Nat.le_refl _)
 have h2 := Lib.splitB_all (one1 c) (Nat.le_refl 1) 0 _ s rfl
 rw [h1, List.length_map] at h2
 exact h2
theorem kNj : ∀ (n k : Nat), k ≤ n → Lib.decDigits k = fmtL k
 | 0, k, h => by
  have : k = 0 := by omega
  subst this
  rw [Lib.decDigits, dif_pos (by omega)]; rfl
 |n + 1, k, h => by
  rw [Lib.decDigits]
  unfold fmtL
  split
  ·rename_i h10
   split
   ·rename_i h0; subst h0; rfl
   ·rename_i h0
    rw [kG4 k (by omega), show k / 10 = 0 by omega, show k % 10 = k by omega]
    simp [decB]
  ·rename_i h10
   rw [if_neg (by omega), kG4 k (by omega), kNj n (k / 10) (by omega)]
   unfold fmtL
   rw [if_neg (by omega)]
theorem k7l (n : Int) (h : 0 ≤ n) : (⟨(Lib.itoa n).toArray⟩ : ByteArray) = bts (fmtL n.toNat) := by
 unfold Lib.itoa
 rw [if_neg (by omega), kNj n.toNat n.toNat (Nat.le_refl _)]
 rfl
theorem kN9 (c : UInt8) : ∀ l : List UInt8, (cutL c l).length ≤ l.length + 1
 | [] => by simp [cutL]
 |b :: l => by
  have ih := kN9 c l
  unfold cutL
  split
  ·simp only [List.length_cons]; omega
  ·split
   ·simp
   ·rename_i x xs h; rw [h] at ih; simp only [List.length_cons] at ih ⊢; omega
theorem kLq (c : UInt8) : ∀ {l x : List UInt8}, x ∈ cutL c l → x.length ≤ l.length
 | [], x, h => by simp only [cutL, List.mem_cons, List.not_mem_nil, or_false] at h; subst h; simp
 |b :: l, x, h => by
  unfold cutL at h
  split at h
  ·rcases List.mem_cons.1 h with rfl | h
   ·simp
   ·have := kLq c h; simp only [List.length_cons]; omega
  ·split at h
   ·simp only [List.mem_cons, List.not_mem_nil, or_false] at h; subst h; simp
   ·rename_i y ys hy
    rcases List.mem_cons.1 h with rfl | h
    ·have := kLq c (l := l) (x := y) (by rw [hy]; simp)
     simp only [List.length_cons]; omega
    ·have := kLq c (l := l) (x := x) (by rw [hy]; simp [h])
     simp only [List.length_cons]; omega
theorem kVr (p : List UInt8) : kHj p = Option.map (fun (v : Nat) => (⟨bts (Lib.cut p [58]).1, (v : Int)⟩ : Frame)) (kBj (bts (Lib.cut p [58]).2.1)) := by
 unfold kHj
 rcases kIs 58 p with h | ⟨x, r, h1, h2⟩
 ·rw [kGa 58 h, kPl 58 h]
  have : kBj (bts []) = none := by decide
  simp only [this, Option.map_none]
 ·rw [h1, kG3 58 r h2, kMc 58 r h2]
  rcases kIs 58 r with h | ⟨y, q, h3, h4⟩
  ·rw [kGa 58 h]
  ·have hb : kBj (bts r) = none := by
    have hmem : (58 : UInt8) ∈ r := by rw [h3]; simp
    obtain ⟨i, hi, he⟩ := List.mem_iff_getElem.1 hmem
    have hi' : i < (bts r).size := by rw [kBb]; exact hi
    refine kS6 hi' ?_
    have : (bts r)[i]! = 58 := by
     rw [getElem!_pos _ i hi', ← he]
     simp only [bts]
     rfl
    rw [this]; decide
   rw [hb, Option.map_none, h3, kG3 58 q h4]
   have := kNh 58 q
   generalize cutL 58 q = z at this ⊢
   match z, this with
   |a :: z, _ => rfl
end Go.Proofs.YtdhkhapbldkkdaaGreatDoor

namespace Go.Vc
section
variable {P : Program} {f : FuncId}
theorem Holds.val {args : List SV} {res : SV} {x : Value} (hR : ∀ (w : World) (X : Nat → Prop) (β : Nat → BV), R w X β res x)
  (h : ∀ (w : World) (X : Nat → Prop) (vs : List Value), Grd P w → vs.length = args.length → (∀ (i : Nat) (c : SV) (u : Value), args[i]? = some c → vs[i]? = some u → R w X (fun _ => nilB) c u) →
   Calls P f vs.toArray w fun e w' => e = .returned x ∧ Go.RowKit.Below w.heap.size w w') : Holds P f args res [] := by
 intro w X vs hG hX hl ha
 refine (h w X vs hG hl ha).mono fun e w' ⟨he, hb⟩ => ?_
 exact ⟨x, fun _ => nilB, he, hb, fun _ => rfl, hR _ _ _, ⟨fun id ob hi => (by cases hi), fun i j oi oj b hi => (by cases hi)⟩, fun id ob b hi => (by cases hi)⟩
theorem k63 {w : World} {X : Nat → Prop} {β : Nat → BV} {vs xs : List Value} (hl : vs.length = (xs.map SV.v).length) (ha : ∀ (i : Nat) (c : SV) (u : Value), (xs.map SV.v)[i]? = some c → vs[i]? = some u → R w X β c u) : vs = xs := by
 apply List.ext_getElem?
 intro i
 by_cases hi : i < xs.length
 ·have h1 : (xs.map SV.v)[i]? = some (.v xs[i]) := by rw [List.getElem?_map, List.getElem?_eq_getElem hi]; rfl
  have hv : i < vs.length := by rw [hl, List.length_map]; exact hi
  have := (ha i _ vs[i] h1 (List.getElem?_eq_getElem hv)).kAz
  rw [List.getElem?_eq_getElem hv, List.getElem?_eq_getElem hi, this]
 ·rw [List.getElem?_eq_none (by rw [hl, List.length_map]; omega), List.getElem?_eq_none (by omega)]
theorem Holds.valV {xs : List Value} {res : SV} {x : Value} (hR : ∀ (w : World) (X : Nat → Prop) (β : Nat → BV), R w X β res x)
  (h : ∀ (w : World), Grd P w → Calls P f xs.toArray w fun e w' => e = .returned x ∧ Go.RowKit.Below w.heap.size w w') : Holds P f (xs.map SV.v) res [] :=
 Holds.val hR fun w X vs hG hl ha => by rw [k63 hl ha]; exact h w hG
theorem Holds.newV {args : List SV} {d e s cap : Nat} {rows : List (List Value)} {cur : Array Value} (hcap : rows.length ≤ cap) (hmax : cap ≤ maxLen) (hsz : cur.size = cap * s) (hlen : ∀ row ∈ rows, row.length = s)
  (hcell : ∀ (i k : Nat) (row : List Value) (u : Value), rows[i]? = some row → row[k]? = some u → cur[i * s + k]? = some u ∧ u.oneCell' = true)
  (h : ∀ (w : World) (X : Nat → Prop) (vs : List Value), Grd P w → vs.length = args.length → (∀ (i : Nat) (c : SV) (u : Value), args[i]? = some c → vs[i]? = some u → R w X (fun _ => nilB) c u) →
   Calls P f vs.toArray w fun en w' => en = .returned (.slice (some ⟨w.heap.size, 0, none⟩) rows.length cap) ∧ w' = w.alloc (.cells cur e (0, 0))) : Holds P f args (.own d) [(d, .sl e s (rows.map fun r => r.map SV.v))] := by
 intro w X vs hG hX hl ha
 refine (h w X vs hG hl ha).mono fun en w' ⟨he, hw⟩ => ?_
 subst hw
 have hblk : ∀ k, k < w.heap.size → (w.alloc (.cells cur e (0, 0))).heap[k]? = w.heap[k]? := fun k hk => by
  show (w.heap.push _)[k]? = _
  rw [Array.getElem?_push, if_neg (by omega)]
 have hnew : (w.alloc (.cells cur e (0, 0))).heap[w.heap.size]? = some (.cells cur e (0, 0)) := by
  show (w.heap.push _)[w.heap.size]? = _
  rw [Array.getElem?_push, if_pos rfl]
 refine ⟨_, fun _ => plain (.slice (some ⟨w.heap.size, 0, none⟩) rows.length cap), he, ⟨rfl, rfl, rfl, ?_, hblk⟩, fun _ => rfl, .own d, ⟨fun id ob hi => ?_, fun i j oi oj b hi hj _ _ => ?_⟩, fun id ob b hi hb => ?_⟩
 ·show _ ≤ (w.heap.push _).size
  rw [Array.size_push]; omega
 ·simp only [lk] at hi
  split at hi
  ·cases hi
   have hget : ∀ (i k : Nat) (row : List SV) (c : SV), (rows.map fun r => r.map SV.v)[i]? = some row → row[k]? = some c → ∃ r u, rows[i]? = some r ∧ r[k]? = some u ∧ c = .v u := fun i k row c hr hc => by
    rw [List.getElem?_map] at hr
    cases hx : rows[i]? with
    |none => rw [hx] at hr; cases hr
    |some r =>
     rw [hx] at hr
     simp only [Option.map_some, Option.some.injEq] at hr
     subst hr
     rw [List.getElem?_map] at hc
     cases hu : r[k]? with
     |none => rw [hu] at hc; cases hc
     |some u => rw [hu] at hc; simp only [Option.map_some, Option.some.injEq] at hc; exact ⟨r, u, rfl, hu, hc.symm⟩
   refine .sl w.heap.size cap cur (fun i k => (cur[i * s + k]?).getD undef) (by simp) hnew (by simpa using hcap) hmax hsz (fun i row hr => ?_) (fun i k row c hr hc => ?_) (fun i k row c hr hc => ?_) (fun i k row c hr hc => ?_)
   ·rw [List.getElem?_map] at hr
    cases hx : rows[i]? with
    |none => rw [hx] at hr; cases hr
    |some r =>
     rw [hx] at hr
     simp only [Option.map_some, Option.some.injEq] at hr
     subst hr
     simpa using hlen r (List.mem_of_getElem? hx)
   ·obtain ⟨r, u, h1, h2, rfl⟩ := hget i k row c hr hc
    rw [(hcell i k r u h1 h2).1]; rfl
   ·obtain ⟨r, u, h1, h2, rfl⟩ := hget i k row c hr hc
    rw [(hcell i k r u h1 h2).1]; exact (hcell i k r u h1 h2).2
   ·obtain ⟨r, u, h1, h2, rfl⟩ := hget i k row c hr hc
    rw [(hcell i k r u h1 h2).1]; exact .v u
  ·cases hi
 ·simp only [lk] at hi hj
  split at hi
  ·split at hj
   ·rename_i e1 e2; rw [e1, e2]
   ·cases hj
  ·cases hi
 ·cases hb
  exact Nat.le_refl _
theorem R.kUj {w : World} {X : Nat → Prop} {β : Nat → BV} {s : Nat} {rows : List (List SV)} {v : Value} (h : R w X β (.sl s rows) v) :
  (rows = [] ∧ ∃ p cap, v = .slice p 0 cap) ∨ ∃ b off cap, v = .slice (some ⟨b, off, none⟩) rows.length cap ∧ ¬ X b ∧ b < w.heap.size ∧ rows.length ≤ cap ∧
   ∀ (i k : Nat) (row : List SV) (c : SV), rows[i]? = some row → row[k]? = some c → ∃ u, w.cell? ⟨b, off + (i * s + k), none⟩ = some u ∧ Rp w X c u := by
 have h := h.kEo
 cases h with
 |nil s p cap => exact .inl ⟨rfl, p, cap, rfl⟩
 |sl b off cap us h1 h2 h3 h4 h5 h6 h7 => exact .inr ⟨b, off, cap, rfl, h1, h2, h3, fun i k row c hr hc => ⟨us i k, h5 i k row c hr hc, h7 i k row c hr hc⟩⟩
theorem ObR.kUj {w : World} {X : Nat → Prop} {β : Nat → BV} {v : BV} {e s : Nat} {rows : List (List SV)} (h : ObR w X β v (.sl e s rows)) :
  (v = nilB ∧ rows = []) ∨ ∃ (b cap : Nat) (cur : Array Value) (us : Nat → Nat → Value), v = plain (.slice (some ⟨b, 0, none⟩) rows.length cap) ∧ w.heap[b]? = some (.cells cur e (0, 0)) ∧ rows.length ≤ cap ∧ cap ≤ maxLen ∧ cur.size = cap * s ∧
   (∀ (i : Nat) (row : List SV), rows[i]? = some row → row.length = s) ∧ ∀ (i k : Nat) (row : List SV) (c : SV), rows[i]? = some row → row[k]? = some c → cur[i * s + k]? = some (us i k) ∧ (us i k).oneCell' = true ∧ Rp w X c (us i k) := by
 cases h with
 |nil e s h => exact .inl ⟨h, rfl⟩
 |sl b cap cur us hv hh h1 h2 h3 h4 h5 h6 h7 => exact .inr ⟨b, cap, cur, us, hv, hh, h1, h2, h3, h4, fun i k row c a b => ⟨h5 i k row c a b, h6 i k row c a b, h7 i k row c a b⟩⟩
structure Upd (w w' : World) (b e : Nat) (cur cur' : Array Value) : Prop where
 os : w'.os = w.os
 tape : w'.tape = w.tape
 output : w'.output = w.output
 size : w.heap.size ≤ w'.heap.size
 cells : w'.heap[b]? = some (.cells cur' e (0, 0))
 len : cur'.size = cur.size
 other : ∀ k, k < w.heap.size → k ≠ b → w'.heap[k]? = w.heap[k]?
def kCt (rows : List (List Value)) : List (List SV) := rows.map fun r => r.map SV.v
theorem kPf {rows : List (List Value)} {i k : Nat} {row : List SV} {c : SV} (hr : (kCt rows)[i]? = some row) (hc : row[k]? = some c) : ∃ r u, rows[i]? = some r ∧ r[k]? = some u ∧ c = .v u := by
 unfold kCt at hr
 rw [List.getElem?_map] at hr
 cases hx : rows[i]? with
 |none => rw [hx] at hr; cases hr
 |some r =>
  rw [hx] at hr
  simp only [Option.map_some, Option.some.injEq] at hr
  subst hr
  rw [List.getElem?_map] at hc
  cases hu : r[k]? with
  |none => rw [hu] at hc; cases hc
  |some u => rw [hu] at hc; simp only [Option.map_some, Option.some.injEq] at hc; exact ⟨r, u, rfl, hu, hc.symm⟩
theorem k64 {rows : List (List Value)} {i s : Nat} {row : List SV} (hr : (kCt rows)[i]? = some row) (h : ∀ r ∈ rows, r.length = s) : row.length = s := by
 unfold kCt at hr
 rw [List.getElem?_map] at hr
 cases hx : rows[i]? with
 |none => rw [hx] at hr; cases hr
 |some r =>
  rw [hx] at hr
  simp only [Option.map_some, Option.some.injEq] at hr
  subst hr
  simpa using h r (List.mem_of_getElem? hx)
theorem kCw.cells {e s : Nat} {rows rows' : List (List Value)} {rest : List SV} (hl0 : ∀ r ∈ rows, r.length = s) (hlr : rows'.length = rows.length) (hl1 : ∀ r ∈ rows', r.length = s)
  (hone : ∀ r ∈ rows', ∀ u ∈ r, u.oneCell' = true)
  (hnil : rows = [] → ∀ (w : World) (us : List Value), us.length = rest.length → (∀ (i : Nat) (c : SV) (u : Value), rest[i]? = some c → us[i]? = some u → R w (fun _ => False) (fun _ => nilB) c u) →
   Calls P f ((Value.slice none 0 0 :: us).toArray) w fun en w' => en = .returned (.tuple #[]) ∧ Go.RowKit.Below w.heap.size w w')
  (hrest : ∀ c ∈ rest, (∃ g, c = .fn g []) ∨ ∃ x, c = .v x)
  (h : ∀ (w : World) (b cap : Nat) (cur : Array Value) (us : List Value), Grd P w → w.heap[b]? = some (.cells cur e (0, 0)) → rows.length ≤ cap → cap ≤ maxLen → cur.size = cap * s →
   (∀ (i k : Nat) (r : List Value) (u : Value), rows[i]? = some r → r[k]? = some u → cur[i * s + k]? = some u ∧ u.oneCell' = true) → us.length = rest.length →
   (∀ (i : Nat) (c : SV) (u : Value), rest[i]? = some c → us[i]? = some u → R w (fun _ => False) (fun _ => nilB) c u) →
   Calls P f ((Value.slice (some ⟨b, 0, none⟩) rows.length cap :: us).toArray) w fun en w' => en = .returned (.tuple #[]) ∧ ∃ cur', Upd w w' b e cur cur' ∧
    ∀ (i k : Nat) (r : List Value) (u : Value), rows'[i]? = some r → r[k]? = some u → cur'[i * s + k]? = some u) :
  kCw P f (.own 1000000 :: rest) [(1000000, .sl e s (kCt rows))] (.tup []) [] [(1000000, .sl e s (kCt rows'))] := by
 intro w X β vs hG hβ hX hl ha hobs k3b
 match vs, hl, ha with
 |v0 :: us, hl, ha =>
  have hv0 := (ha 0 _ v0 rfl rfl).kCa
  subst hv0
  have hus : us.length = rest.length := by simpa using hl
  have haR : ∀ (i : Nat) (c : SV) (u : Value), rest[i]? = some c → us[i]? = some u → R w (fun _ => False) (fun _ => nilB) c u := fun i c u hc hu => by
   have h1 := ha (i + 1) c u (by simpa using hc) (by simpa using hu)
   rcases hrest c (List.mem_of_getElem? hc) with ⟨g, rfl⟩ | ⟨x, rfl⟩
   ·obtain ⟨cs, rfl, hcl, _⟩ := h1.kLk
    have : cs = [] := List.eq_nil_of_length_eq_zero (by simpa using hcl.symm)
    subst this
    exact .fn rfl fun k c u hk => (by simp at hk)
   ·have := h1.kAz; subst this; exact .p (.v _)
  have hO := hobs.1 1000000 (.sl e s (kCt rows)) (by simp [lk])
  have kNg : ∀ {id ob}, lk id ([] ++ [(1000000, Ob.sl e s (kCt rows'))]) = some ob → id = 1000000 ∧ ob = .sl e s (kCt rows') := fun {id ob} hi => by
   simp only [List.nil_append, lk] at hi
   split at hi
   ·rename_i he; cases hi; exact ⟨he, rfl⟩
   ·cases hi
  have inj : ∀ (β' : Nat → BV) (i j : Nat) (oi oj : Ob) (b : Nat), lk i ([] ++ [(1000000, Ob.sl e s (kCt rows'))]) = some oi → lk j ([] ++ [(1000000, Ob.sl e s (kCt rows'))]) = some oj → (β' i).ft b → (β' j).ft b → i = j :=
   fun β' i j oi oj b hi hj _ _ => (kNg hi).1.trans (kNg hj).1.symm
  have nilc : rows = [] → β 1000000 = nilB → Calls P f (((β 1000000).val :: us).toArray) w fun en w' => ∃ v β', en = .returned v ∧ w'.os = w.os ∧ w'.tape = w.tape ∧ w'.output = w.output ∧ w.heap.size ≤ w'.heap.size ∧
   (∀ b, b < w.heap.size → (¬ ∃ id ob, lk id [(1000000, Ob.sl e s (kCt rows))] = some ob ∧ (β id).ft b) → w'.heap[b]? = w.heap[b]?) ∧ (∀ i, (β' i).val.oneCell' = true) ∧ (∀ i ob, 1000000 ≤ i → lk i [(1000000, Ob.sl e s (kCt rows))] = some ob → (β' i).val = (β i).val) ∧
   R w' (XX X β' ([] ++ [(1000000, Ob.sl e s (kCt rows'))])) β' (.tup []) v ∧ Obs w' X β' ([] ++ [(1000000, Ob.sl e s (kCt rows'))]) ∧
   ∀ id ob b, lk id ([] ++ [(1000000, Ob.sl e s (kCt rows'))]) = some ob → (β' id).ft b → w.heap.size ≤ b ∨ ∃ k o, lk k [(1000000, Ob.sl e s (kCt rows))] = some o ∧ (β k).ft b := fun hr hb0 => by
   rw [hb0]
   refine (hnil hr w us hus haR).mono fun en w' ⟨he, hb⟩ => ?_
   have hr' : rows' = [] := List.eq_nil_of_length_eq_zero (by rw [hlr, hr]; rfl)
   refine ⟨_, β, he, hb.os, hb.tape, hb.output, hb.size, fun b hlt _ => hb.block b hlt, hβ, fun _ _ _ _ => rfl, .tup (us := []) rfl fun k c u hk => (by simp at hk), ⟨fun id ob hi => ?_, inj β⟩, fun id ob b hi hb => .inr ⟨1000000, .sl e s (kCt rows), by simp [lk], by rw [(kNg hi).1] at hb; exact hb⟩⟩
   obtain ⟨rfl, rfl⟩ := kNg hi
   rw [hr', hb0]
   exact .nil e s rfl
  rcases hO.kUj with ⟨h0, hrows⟩ | ⟨b, cap, cur, us0, hv, hh, h1, h2, h3, h4, h5⟩
  ·exact nilc (by simpa [kCt] using hrows) h0
  ·skip
   have hbv' : β 1000000 = plain (.slice (some ⟨b, 0, none⟩) rows.length cap) := by rw [hv]; simp [kCt]
   have hcell : ∀ (i k : Nat) (r : List Value) (u : Value), rows[i]? = some r → r[k]? = some u → cur[i * s + k]? = some u ∧ u.oneCell' = true := fun i k r u hr hu => by
    have e1 : (kCt rows)[i]? = some (r.map SV.v) := by unfold kCt; rw [List.getElem?_map, hr]; rfl
    have e2 : (r.map SV.v)[k]? = some (.v u) := by rw [List.getElem?_map, hu]; rfl
    obtain ⟨e5, e4, e3⟩ := h5 i k _ _ e1 e2
    generalize us0 i k = y at e3 e4 e5
    cases e3
    exact ⟨e5, e4⟩
   rw [hbv']
   refine (h w b cap cur us hG hh (by simpa [kCt] using h1) h2 h3 hcell hus haR).mono fun en w' ⟨he, cur', hU, hc'⟩ => ?_
   have hblk : (β 1000000).ft b := by rw [hbv']; rfl
   refine ⟨_, β, he, hU.os, hU.tape, hU.output, hU.size, fun k hk hn => hU.other k hk fun hkb => hn ⟨1000000, .sl e s (kCt rows), by simp [lk], by rw [hkb]; exact hblk⟩, hβ, fun _ _ _ _ => rfl, .tup (us := []) rfl fun k c u hk => (by simp at hk), ⟨fun id ob hi => ?_, inj β⟩, fun id ob b hi hb => .inr ⟨1000000, .sl e s (kCt rows), by simp [lk], by rw [(kNg hi).1] at hb; exact hb⟩⟩
   obtain ⟨rfl, rfl⟩ := kNg hi
   rw [hbv']
   refine .sl b cap cur' (fun i k => (cur'[i * s + k]?).getD undef) (by simp [kCt, hlr]) hU.cells (by simpa [kCt, hlr] using h1) h2 (by rw [hU.len]; exact h3) (fun i row hr => k64 hr hl1) (fun i k row c hr hc => ?_) (fun i k row c hr hc => ?_) (fun i k row c hr hc => ?_)
   ·obtain ⟨r, u, g1, g2, rfl⟩ := kPf hr hc
    rw [hc' i k r u g1 g2]; rfl
   ·obtain ⟨r, u, g1, g2, rfl⟩ := kPf hr hc
    rw [hc' i k r u g1 g2]; exact hone r (List.mem_of_getElem? g1) u (List.mem_of_getElem? g2)
   ·obtain ⟨r, u, g1, g2, rfl⟩ := kPf hr hc
    rw [hc' i k r u g1 g2]; exact .v u
theorem k0j {α : Type} [Inhabited α] {enc : α → Value} {w : World} {b e : Nat} {cur : Array Value} {d : Array α} (hh : w.heap[b]? = some (.cells cur e (0, 0))) (hc : ∀ j, j < d.size → cur[j]? = some (enc d[j]!)) : Go.Sort.Holds enc w b 0 d := by
 intro j hj
 constructor
 ·simp only [World.cell?, hh, Nat.zero_add]
  exact hc j hj
 ·simp only [World.frozen?, hh]
  simp
theorem k3k {α : Type} [Inhabited α] (enc : α → Value) {w : World} {b e : Nat} {cur : Array Value} (n : Nat) (d : Array α) (os : Array Obj) (hh : w.heap[b]? = some (.cells cur e (0, 0))) (hd : d.size ≤ cur.size) :
  Upd w (Go.Sort.grow (Go.Sort.putRow enc (Go.Sort.ahead w n) b 0 d) os) b e cur (Go.Sort.putCells enc 0 d cur) ∧ ∀ j, j < d.size → (Go.Sort.putCells enc 0 d cur)[j]? = some (enc d[j]!) := by
 have hb := lt_of_heap hh
 have hsz : (Go.Sort.putRow enc (Go.Sort.ahead w n) b 0 d).heap.size = w.heap.size := by
  show (w.heap.modify b _).size = _
  rw [Array.size_modify]
 have hget : ∀ k, k < w.heap.size → (Go.Sort.grow (Go.Sort.putRow enc (Go.Sort.ahead w n) b 0 d) os).heap[k]? = (w.heap.modify b (Go.Sort.onCells (Go.Sort.putCells enc 0 d)))[k]? := fun k hk => by
  show ((w.heap.modify b _) ++ os)[k]? = _
  rw [Array.getElem?_append_left (by rw [Array.size_modify]; exact hk)]
 refine ⟨⟨rfl, rfl, rfl, ?_, ?_, by simp [Go.Sort.putCells], fun k hk hne => ?_⟩, fun j hj => ?_⟩
 ·show _ ≤ ((w.heap.modify b _) ++ os).size
  rw [Array.size_append, Array.size_modify]; omega
 ·rw [hget b hb, Array.getElem?_modify, if_pos rfl, hh]; rfl
 ·rw [hget k hk, Array.getElem?_modify, if_neg (fun e => hne e.symm)]
 ·simp only [Go.Sort.putCells, Array.getElem?_mapIdx, Nat.zero_le, Nat.zero_add, true_and]
  rw [Array.getElem?_eq_getElem (show j < cur.size by omega)]
  simp [hj]
end
section
variable {P : Program} {w : World}
theorem Grd.block (h : Grd P w) (h0 : P.globals.size ≠ 0) : ∃ W0 : World, W0.ShapedOpen P ∧ ((P.globalNamed "internal/strconv.uint64pow10").isSome = true → W0.var? P "internal/strconv.uint64pow10" = some (pow10s.map fun z => Value.int .u64 z).toArray) ∧ ∀ b, b < P.globals.size → w.heap[b]? = W0.heap[b]? := by
 rcases h with h | ⟨_, h⟩
 ·exact absurd h h0
 ·exact h
theorem Grd.pow (h : Grd P w) (h0 : P.globals.size ≠ 0) {g : Nat} (hg : P.globalNamed "internal/strconv.uint64pow10" = some g) (hlt : g < P.globals.size) : w.var? P "internal/strconv.uint64pow10" = some (pow10s.map fun z => Value.int .u64 z).toArray := by
 obtain ⟨W0, _, h2, h3⟩ := h.block h0
 rw [← h2 (by rw [hg]; rfl)]
 unfold World.var?
 rw [hg]
 simp only [Option.bind_some]
 rw [h3 g hlt]
theorem Grd.kUk (h : Grd P w) (h0 : P.globals.size ≠ 0) {g : Nat} (hlt : g < P.globals.size) (hq : ∀ W0 : World, W0.ShapedOpen P → ∃ m : Int, W0.cell? ⟨g, 0, none⟩ = some (.int .i64 m)) : ∃ m : Int, w.cell? ⟨g, 0, none⟩ = some (.int .i64 m) := by
 obtain ⟨W0, h1, _, h3⟩ := h.block h0
 obtain ⟨m, hm⟩ := hq W0 h1
 exact ⟨m, by rw [← hm]; exact World.cell?_of_block (w := W0) (h3 g hlt)⟩
end
theorem R.tupV {w : World} {X : Nat → Prop} {β : Nat → BV} (xs : List Value) : R w X β (.tup (xs.map SV.v)) (.tuple xs.toArray) :=
 .tup (by simp) fun k c u hc hu => by
  rw [List.getElem?_map, hu] at hc
  simp only [Option.map_some, Option.some.injEq] at hc
  subst hc
  exact .p (.v _)
end Go.Vc

namespace Go.Proofs.YtdhkhapbldkkdaaGreatDoor
open Go.Vc
attribute [local irreducible] Go.Vc.WP
attribute [local go_sem] kAr kAs
open Go.RowKit (Below)
theorem kXb : Tryz.prog.globals.size ≠ 0 := by decide +kernel
theorem below_drewN (w : World) (n : Nat) : Below w.heap.size w (w.drewN n) := ⟨rfl, rfl, rfl, Nat.le_refl _, fun _ _ => rfl⟩
theorem below_grow (w : World) (n : Nat) (os : Array Obj) : Below w.heap.size w (Go.Sort.grow (w.drewN n) os) :=
 ⟨rfl, rfl, rfl, by rw [Go.Sort.size_grow]; exact Nat.le_add_right _ _, fun k hk => by show (w.heap ++ os)[k]? = _; rw [Array.getElem?_append_left hk]⟩
def kXc : Ctr := pur (fun args => aI args 0) (fun n => [.v (.int .i64 n)]) (fun n => 0 ≤ n ∧ n ≤ 1000000000000000) (fun _ n => .v (.string (bts (fmtL n.toNat)))) (fun _ _ => [])
theorem cItoa : Cn Tryz.prog 74 kXc := by
 refine Cn.pur Tryz.func74 (by kernel_rfl) rfl fun d x hx => ?_
 refine Holds.valV (xs := [.int .i64 x]) (x := .string (bts (fmtL x.toNat))) (fun w X β => .p (.v _)) fun w hG => ?_
 have ht := hG.pow (g := (Tryz.prog.globalNamed "internal/strconv.uint64pow10").getD 0) kXb (by decide +kernel) (by decide +kernel)
 exact (Any.strconv_Itoa Tryz.lM171 x (by omega) (by omega) w ht).mono fun e w' ⟨he, k, os, hw⟩ => ⟨by rw [he, k7l x hx.1], by rw [hw]; exact below_grow w k os⟩
def kCut : Ctr := pur (fun args => (aS args 0, aS args 1)) (fun x => [.v (.string x.1), .v (.string x.2)]) (fun x => x.1.size < 4294967281)
 (fun _ x => .tup [.v (.string (bts (Lib.cut x.1.data.toList x.2.data.toList).1)), .v (.string (bts (Lib.cut x.1.data.toList x.2.data.toList).2.1)), .v (.bool (Lib.cut x.1.data.toList x.2.data.toList).2.2)]) (fun _ _ => [])
theorem cCut : Cn Tryz.prog 49 kCut := by
 refine Cn.pur Tryz.func49 (by kernel_rfl) rfl fun d x hx => ?_
 refine Holds.valV (xs := [.string x.1, .string x.2]) (fun w X β => R.tupV [.string (bts (Lib.cut x.1.data.toList x.2.data.toList).1), .string (bts (Lib.cut x.1.data.toList x.2.data.toList).2.1), .bool (Lib.cut x.1.data.toList x.2.data.toList).2.2]) fun w hG => ?_
 obtain ⟨m, hm⟩ := hG.kUk (g := Tryz.kV5.g 1) kXb (by decide +kernel) (fun W0 h => Tryz.lM145.s1_3 W0 h)
 exact (Any.strings_Cut { Tryz.lM145 with } x.1 x.2 m w hx hm).mono fun e w' ⟨he, n, hw⟩ => ⟨he, by rw [hw]; exact below_drewN w n⟩
def kTk : Ctr := pur (fun args => (aS args 0, aS args 1)) (fun x => [.v (.string x.1), .v (.string x.2)]) (fun x => x.1.size < 4294967281 ∧ x.2.size = 1)
 (fun d _ => .own d) (fun d x => [(d, .sl 9 1 (((cutL x.2[0]! x.1.data.toList).map bts).map encS))])
theorem k2a {s : ByteArray} (h : s.size = 1) : s = one1 s[0]! := by
 have hl : s.data.toList.length = 1 := by simpa using h
 rw [getElem!_pos s 0 (by omega)]
 refine (kJx s _ ?_).trans rfl
 match hs : s.data.toList, hl with
 | [c], _ =>
  have : s[0]'(by omega) = s.data.toList[0]'(by omega) := by simp; rfl
  rw [this]
  simp [hs]
theorem k8h : Cn Tryz.prog 93 kTk := by
 refine Cn.pur Tryz.func93 (by kernel_rfl) rfl fun d x hx => ?_
 obtain ⟨s, sep⟩ := x
 obtain ⟨hs, h1⟩ := hx
 simp only at hs h1 ⊢
 have hsep := k2a h1
 generalize sep[0]! = c at hsep
 subst hsep
 have hcut := kS5 c s.size s (Nat.le_refl _)
 have hlen := k3q c s
 have hle := kN9 c s.data.toList
 have hsz : s.data.toList.length = s.size := by simp
 have hn := Holds.newV (P := Tryz.prog) (f := 93) (args := [.v (.string s), .v (.string (one1 c))]) (d := d) (e := 9) (s := 1) (cap := Lib.countB s (one1 c) + 1) (rows := ((cutL c s.data.toList).map bts).map fun b => [Value.string b])
  (cur := (((cutL c s.data.toList).map bts).map Value.string).toArray) (by simp [hlen]) (by unfold maxLen; omega) (by simp [hlen]) (fun row hr => by obtain ⟨x, _, rfl⟩ := List.mem_map.1 hr; rfl)
  (fun i k row u hr hu => by
   rw [List.getElem?_map] at hr
   cases hx : ((cutL c s.data.toList).map bts)[i]? with
   |none => rw [hx] at hr; cases hr
   |some b =>
    rw [hx] at hr
    simp only [Option.map_some, Option.some.injEq] at hr
    subst hr
    cases k with
    |succ k => simp at hu
    |zero =>
     simp only [List.getElem?_cons_zero, Option.some.injEq] at hu
     subst hu
     refine ⟨?_, rfl⟩
     rw [Nat.mul_one, Nat.add_zero, List.getElem?_toArray, List.getElem?_map, hx]; rfl) (fun w X vs hG hl ha => by
   have hv : vs = [.string s, .string (one1 c)] := k63 (xs := [.string s, .string (one1 c)]) hl ha
   subst hv
   obtain ⟨m, hm⟩ := hG.kUk (g := Tryz.kV6.g 1) kXb (by decide +kernel) (fun W0 h => Tryz.k4a.s1_3 W0 h)
   refine (Any.strings_Split { Tryz.k4a with } Tryz.k4a.i9 s (one1 c) m w hs hm (Nat.le_refl 1)).mono fun e w' ⟨he, hw⟩ => ⟨?_, ?_⟩
   ·rw [he]; simp [hlen]
   ·rw [hw, hcut]; rfl)
 have e : (((cutL c s.data.toList).map bts).map fun b => [Value.string b]).map (fun r => r.map SV.v) = ((cutL c s.data.toList).map bts).map encS := by rw [List.map_map]; rfl
 rw [e] at hn
 exact hn
theorem bxT : Builder.Extra Tryz.prog Tryz.kZf := {
 sizeBuilder := by kernel_rfl
 liesBuilder := by kernel_rfl
 t5 := Tryz.underlying5
 a5 := Tryz.isAgg5
 z5 := Tryz.sizeOf5
 v5 := Tryz.zeroValue5
 infoByte := by kernel_rfl
 cellsByte := by kernel_rfl
 sizeByte := by kernel_rfl
 neB5 := by decide }
theorem kOj (c : UInt8) : ∀ L : List (List UInt8), Lib.join L [c] = joinL c L
 | [] => rfl
 | [x] => by rw [Lib.join_one]; rfl
 |x :: y :: l => by
  have ih := kOj c (y :: l)
  unfold Lib.join at ih ⊢
  rw [joinL, ← ih]
  simp [List.intercalate, List.intersperse]
def kKm : Ctr := pur (fun args => (decS (aR args 0), aS args 1)) (fun x => [.sl 1 (x.1.map encS), .v (.string x.2)]) (fun x => x.1.length ≤ 1099511627776 ∧ x.2.size = 1 ∧ (joinL x.2[0]! (x.1.map (·.data.toList))).length ≤ 140737488355328)
 (fun _ x => .v (.string (bts (joinL x.2[0]! (x.1.map (·.data.toList)))))) (fun _ _ => [])
theorem k4b : Cn Tryz.prog 77 kKm := by
 refine Cn.pur Tryz.func77 (by kernel_rfl) rfl fun d x hx => ?_
 obtain ⟨L, sep⟩ := x
 obtain ⟨hL, h1, hj⟩ := hx
 simp only at hL h1 hj ⊢
 have hsep := k2a h1
 generalize sep[0]! = c at hsep hj ⊢
 subst hsep
 refine Holds.val (x := .string (bts (joinL c (L.map (·.data.toList))))) (fun w X β => .p (.v _)) fun w X vs hG hl ha => ?_
 match vs, hl with
 | [v0, v1], _ =>
  have h2 := (ha 1 _ v1 rfl rfl).kAz
  subst h2
  rcases (ha 0 _ v0 rfl rfl).kUj with ⟨hr, p, cap, rfl⟩ | ⟨b, off, cap, rfl, _, hb, hc, hcell⟩
  ·have hL0 : L = [] := by simpa using hr
   subst hL0
   exact (Any.strings_Join_none Tryz.l156 bxT p cap (one1 c) w).mono fun e w' ⟨he, hw⟩ => ⟨he, by rw [hw]; exact Below.refl _ _⟩
  ·rw [List.length_map] at hc ⊢
   refine (Any.strings_Join Tryz.l156 bxT b off cap L (one1 c) w (fun j x hx => ?_) hb (by omega) hc (by rw [show (one1 c).data.toList = [c] from rfl, kOj]; exact hj)).mono fun e w' ⟨he, hw⟩ => ⟨?_, hw⟩
   ·obtain ⟨u, hu, hru⟩ := hcell j 0 (encS x) (.v (.string x)) (by rw [List.getElem?_map, hx]; rfl) rfl
    cases hru
    rw [Nat.mul_one, Nat.add_zero] at hu
    exact hu
   ·rw [he, show (one1 c).data.toList = [c] from rfl, kOj]; rfl
end Go.Proofs.YtdhkhapbldkkdaaGreatDoor

namespace Go.Proofs.YtdhkhapbldkkdaaGreatDoor
open Go.Vc
attribute [local irreducible] Go.Vc.WP
attribute [local go_sem] kAr kAs
def kG6 : List Go.Vc.Fp := [⟨[3], [], [], [24], [], []⟩, ⟨[5], [], [], [24], [], []⟩, ⟨[17], [1], [], [24], [], []⟩, ⟨[18], [1, 2], [], [24], [], []⟩, ⟨[5], [], [], [24], [], []⟩, ⟨[20], [4], [], [24], [], []⟩, ⟨[21], [4, 5], [], [24], [], []⟩, ⟨[19, 22], [1, 2, 3, 4, 5, 6], [], [24], [], []⟩, ⟨[23], [1, 2, 3, 4, 5, 6, 7], [], [], [], [24]⟩, ⟨[], [0, 1, 2, 3, 4, 5, 6, 7, 8], [], [], [], []⟩, ⟨[], [0, 1, 2, 3, 4, 5, 6, 7, 8, 9], [], [], [], []⟩]
attribute [local go_sem] kG6
attribute [local go_sem] kBc kA9 kA4 stkA kBf kBe kBi kAq
section
noncomputable def k4r : Cx := { P := Tryz.prog, tys := tys, C := [(74, kXc)], hty := kAp, hC := COk.cons cItoa (COk.nil _) }
theorem qDl : k4r.tys = tys := rfl
theorem qDm : k4r.C = [(74, kXc)] := rfl
attribute [local go_sem] qDl qDm kXc
theorem k4d : Cn Tryz.prog 33 kFmt := by
 refine Cn.pur Tryz.func33 (by kernel_rfl) rfl fun d x hx => ?_
 refine Holds.go (c := k4r) Tryz.func33 rfl Tryz.results33 Tryz.ntmps33 (by omega) (by simp) rfl ?_
 intro X0 w0
 (repeat' (first | refine WP.seq ?_ | refine WP.block ?_ | ((first | refine WP.region ?_ | refine WP.kAa ?_ | refine WP.ret ?_ | refine WP.exit ?_ | refine WP.skip ?_ ); simp only [go_sem]) | refine And.intro ?_ ?_ | intro _))
 all_goals first | omega | skip
end
theorem qAt {L : List Frame} {k : Nat} (hk : k < L.length) (h : frOk L[k] = false) : fmtF L = ⟨#[]⟩ := by
 unfold fmtF
 rw [if_neg]
 intro ha
 rw [List.all_eq_true] at ha
 rw [ha _ (List.getElem_mem hk)] at h; cases h
theorem qAu {L : List Frame} (h : ∀ j (hj : j < L.length), frOk L[j] = true) : fmtF L = bts (joinL 59 (L.map kDh)) := by
 unfold fmtF
 rw [if_pos]
 rw [List.all_eq_true]
 intro f hf
 obtain ⟨j, hj, rfl⟩ := List.mem_iff_getElem.1 hf
 exact h j hj
theorem k8q (f : Frame) : bts (kDh f) = f.name ++ ⟨#[58]⟩ ++ bts (fmtL f.line.toNat) := by
 unfold kDh
 rw [show (58 : UInt8) :: fmtL f.line.toNat = [58] ++ fmtL f.line.toNat from rfl, ← kLb, ← kLb, kEn, ← ByteArray.append_assoc]; rfl
theorem lenJ (L : List Frame) (k : Nat) (hk : k ≤ L.length) (h : ∀ j (hj : j < L.length), j < k → frOk L[j] = true) : (bts (joinL 59 ((L.take k).map kDh))).size ≤ 12 * k := by
 rw [kBb]
 have := kPq ((L.take k).map kDh) 11 (fun x hx => by
  obtain ⟨f, hf, rfl⟩ := List.mem_map.1 hx
  rw [List.mem_take_iff_getElem] at hf
  obtain ⟨j, hj, rfl⟩ := hf
  exact (kMf (h j (by omega) (by omega))).2)
 simp only [List.length_map, List.length_take] at this
 omega
def wfFr (L : List Frame) : Prop := L.length ≤ 1099511627776 ∧ ∀ f ∈ L, f.name.size ≤ 1099511627776
def kHn : Ctr := pur (fun args => kLp (aR args 0)) (fun L => [.sl 2 (L.map kAo)]) (fun L => wfFr L) (fun _ L => .v (.string (fmtF L))) (fun _ _ => [])
section
attribute [local go_sem] kCf k60 kFmt
end
section
noncomputable def k4s : Cx := { P := Tryz.prog, tys := tys, C := [(124, kGc), (33, kFmt), (77, kKm)], hty := kAp, hC := COk.cons k8r (COk.cons k4d (COk.cons k4b (COk.nil _))) }
theorem qDn : k4s.tys = tys := rfl
theorem qDo : k4s.C = [(124, kGc), (33, kFmt), (77, kKm)] := rfl
attribute [local go_sem] qDn qDo kGc kFmt kKm
theorem qDp (L : List Frame) (k : Nat) : (((L.take k).map fun f => bts (kDh f)).map (·.data.toList)) = (L.take k).map kDh := by
 rw [List.map_map]
 exact List.map_congr_left fun f _ => by simp [bts]
theorem takeS (L : List Frame) (k : Nat) (hk : k < L.length) : ((L.take k).map fun f => bts (kDh f)).map encS ++ [[SV.v (.string (L[k].name ++ ⟨#[58]⟩ ++ bts (fmtL L[k].line.toNat)))]] = ((L.take (k + 1)).map fun f => bts (kDh f)).map encS := by
 rw [List.take_succ_eq_append_getElem hk, List.map_append, List.map_append, List.map_cons, List.map_nil, k8q]; rfl
theorem k8m : Cn Tryz.prog 88 kHn := by
 refine Cn.pur Tryz.func88 (by kernel_rfl) rfl fun d x hx => ?_
 rename List Frame => L
 have hL := hx.1
 refine Holds.go (c := k4s) Tryz.func88 rfl Tryz.results88 Tryz.ntmps88 (by omega) (by simp) rfl ?_
 intro X0 w0
 (repeat' (first | refine WP.seq ?_ | refine WP.block ?_ | ((first | refine WP.region ?_ | refine WP.kAa ?_ | refine WP.ret ?_ | refine WP.exit ?_ | refine WP.skip ?_ | refine WP.kAh 9 kG6 [16, 17, 18, 19, 20, 21, 22, 23, 24] [24] [] (by decide +kernel) (by kernel_rfl) (by kernel_rfl) (by kernel_rfl) ?_); simp only [go_sem]) | refine And.intro ?_ ?_ | intro _))
 all_goals first | omega | skip
 refine WP.prep [] [(6, 3)] rfl ?_
 refine WP.loop (fun k : Nat => ⟨[(3, .own 3), (7, .sl 2 (L.map kAo)), (8, .v (.int .i64 L.length)), (9, .v (.int .i64 k))], [(3, .sl 9 1 (((L.take k).map fun f => bts (kDh f)).map encS))]⟩) (fun k => k ≤ L.length ∧ ∀ j (hj : j < L.length), j < k → frOk L[j] = true) (fun k => L.length - k) 0 (by simp) ?_ ?_
 ·(simp only [go_sem] <;> (first | (and_intros <;> rfl) | simp))
 intro k ⟨hk, hf⟩
 have hz := lenJ L k hk hf
 rw [kBb] at hz
 have hlk : ((L.take k).map fun f => bts (kDh f)).length = k := by rw [List.length_map, List.length_take]; omega
 by_cases hlt : k < L.length
 ·have h1 := kAd kAo L k hlt
  have hnm := hx.2 _ (List.getElem_mem hlt)
  have htk := takeS L k hlt
  have z58 : ByteArray.size ⟨#[58]⟩ = 1 := rfl
  cases hok : frOk L[k] with
  |false =>
   have hok' : frOk ⟨L[k].name, L[k].line⟩ = false := hok
   (repeat' (first | refine WP.seq ?_ | refine WP.block ?_ | ((first | refine WP.region ?_ | refine WP.kAa ?_ | refine WP.ret ?_ | refine WP.exit ?_ | refine WP.skip ?_ | refine WP.kAh 9 kG6 [16, 17, 18, 19, 20, 21, 22, 23, 24] [24] [] (by decide +kernel) (by kernel_rfl) (by kernel_rfl) (by kernel_rfl) ?_); simp only [go_sem, h1, kAo, hok']) | refine And.intro ?_ ?_ | intro _))
   all_goals first | omega | (rw [qAt hlt hok]) | skip
  |true =>
   have hok' : frOk ⟨L[k].name, L[k].line⟩ = true := hok
   obtain ⟨g1, g2, g3⟩ := kEe.1 hok
   have g4 := (kBk g1).2.2
   have g5 : (bts (fmtL L[k].line.toNat)).size ≤ 2 := by rw [kBb]; exact kIk 2 _ (by omega) (by omega)
   have hnext : ∀ j (hj : j < L.length), j < k + 1 → frOk L[j] = true := fun j hjl hjk => by
    rcases Nat.lt_or_ge j k with hh | hh
    ·exact hf j hjl hh
    ·have : j = k := by omega
     subst this; exact hok
   (repeat' (first | refine WP.seq ?_ | refine WP.block ?_ | ((first | refine WP.region ?_ | refine WP.kAa ?_ | refine WP.ret ?_ | refine WP.exit ?_ | refine WP.skip ?_ | refine WP.kAh 9 kG6 [16, 17, 18, 19, 20, 21, 22, 23, 24] [24] [] (by decide +kernel) (by kernel_rfl) (by kernel_rfl) (by kernel_rfl) ?_); simp only [go_sem, h1, kAo, hok', g2, g3, ByteArray.size_append, z58, hlk, htk]) | refine And.intro ?_ ?_ | intro _))
   all_goals first | omega | skip
   all_goals exact ⟨k + 1, ⟨by omega, hnext⟩, by omega, by (first | (and_intros <;> rfl) | simp)⟩
 ·have hall : fmtF L = bts (joinL 59 (L.map kDh)) := qAu fun j hj => hf j hj (by omega)
  have hmd := qDp L k
  have h59 : (⟨#[59]⟩ : ByteArray)[0]! = 59 := rfl
  have z59 : ByteArray.size ⟨#[59]⟩ = 1 := rfl
  (repeat' (first | refine WP.seq ?_ | refine WP.block ?_ | ((first | refine WP.region ?_ | refine WP.kAa ?_ | refine WP.ret ?_ | refine WP.exit ?_ | refine WP.skip ?_ | refine WP.kAh 9 kG6 [16, 17, 18, 19, 20, 21, 22, 23, 24] [24] [] (by decide +kernel) (by kernel_rfl) (by kernel_rfl) (by kernel_rfl) ?_); simp only [go_sem, hlk, hmd, h59, z59]) | refine And.intro ?_ ?_ | intro _))
  all_goals first | omega | skip
  rw [hall, List.take_of_length_le (by omega)]
end
end Go.Proofs.YtdhkhapbldkkdaaGreatDoor

namespace Go.Proofs.YtdhkhapbldkkdaaGreatDoor
open Go.Vc
attribute [local irreducible] Go.Vc.WP
attribute [local go_sem] kAr kAs
attribute [local go_sem] kA5
theorem kB4 (k n : Int) (s : ByteArray) : kI7 [.v (.int .i64 k), .v (.int .i64 n), .v (.string s)] = ⟨k, n, s⟩ := rfl
attribute [local go_sem] kB4
def kEm (t : Tok) : Prop := t.name.size ≤ 1099511627776
def kFx (L : List Tok) : Prop := L.length ≤ 1048576 ∧ ∀ t ∈ L, kEm t
def kD3 : Ctr := pur (fun args => kI7 (aC args 0)) (fun x => [.agg [.v (.int .i64 x.kind), .v (.int .i64 x.num), .v (.string x.name)]]) kEm (fun _ x => .v (.bool (kCl x))) (fun _ _ => [])
def kKv : Ctr := pur (fun args => kI7 (aC args 0)) (fun x => [.agg [.v (.int .i64 x.kind), .v (.int .i64 x.num), .v (.string x.name)]]) kEm (fun _ x => .v (.int .i64 (arity x))) (fun _ _ => [])
def kEnd : Ctr := pur (fun args => (kI8 (aR args 0), aI args 1)) (fun x => [.sl 3 (x.1.map kAw), .v (.int .i64 x.2)]) (fun x => kFx x.1) (fun _ x => .v (.int .i64 (kIv x.1 x.2))) (fun _ _ => [])
def kFl : Ctr := pur (fun args => kI8 (aR args 0)) (fun x => [.sl 3 (x.map kAw)]) kFx (fun _ x => .v (.bool (kCy x))) (fun _ _ => [])
def kLa : Ctr := pur (fun args => kI7 (aC args 0)) (fun x => [.agg [.v (.int .i64 x.kind), .v (.int .i64 x.num), .v (.string x.name)]]) kEm (fun _ x => .v (.string (kEj x))) (fun _ _ => [])
theorem k2j (n : Int) (s : ByteArray) : kCl ⟨0, n, s⟩ = (decide (0 ≤ n) && decide (n ≤ 999) && decide (s = ⟨#[]⟩)) := rfl
theorem k2k (n : Int) (s : ByteArray) : kCl ⟨1, n, s⟩ = ((n == 0) && kBv s) := rfl
theorem k2l (n : Int) (s : ByteArray) : kCl ⟨7, n, s⟩ = (decide (0 ≤ n) && decide (n ≤ 4) && kBv s) := rfl
theorem k2m {k n : Int} {s : ByteArray} (h0 : ¬ k = 0) (h1 : ¬ k = 1) (h7 : ¬ k = 7) : kCl ⟨k, n, s⟩ = (decide (2 ≤ k) && decide (k ≤ 6) && (n == 0) && decide (s = ⟨#[]⟩)) := by
 unfold kCl; rw [if_neg h0, if_neg h1, if_neg h7]; rfl
section
noncomputable def k59 : Cx := { P := Tryz.prog, tys := tys, C := [(41, k60), (116, kCf)], hty := kAp, hC := COk.cons c60 (COk.cons kOq (COk.nil _)) }
theorem qGj : k59.tys = tys := rfl
theorem qGk : k59.C = [(41, k60), (116, kCf)] := rfl
attribute [local go_sem] qGj qGk k60 kCf
theorem kUw : Cn Tryz.prog 149 kD3 := by
 refine Cn.pur Tryz.func149 (by kernel_rfl) rfl fun d x hx => ?_
 obtain ⟨k, n, s⟩ := x
 unfold kEm at hx
 simp only at hx
 refine Holds.go (c := k59) Tryz.func149 rfl Tryz.results149 Tryz.ntmps149 (by omega) (by simp) rfl ?_
 intro X0 w0
 by_cases h0 : k = 0
 ·subst h0
  rw [k2j]
  (repeat' (first | refine WP.seq ?_ | refine WP.block ?_ | ((first | refine WP.region ?_ | refine WP.kAa ?_ | refine WP.ret ?_ | refine WP.exit ?_ | refine WP.skip ?_ ); simp only [go_sem]) | refine And.intro ?_ ?_ | intro _))
  all_goals first | omega | skip
 ·by_cases h7 : k = 7
  ·subst h7
   rw [k2l]
   (repeat' (first | refine WP.seq ?_ | refine WP.block ?_ | ((first | refine WP.region ?_ | refine WP.kAa ?_ | refine WP.ret ?_ | refine WP.exit ?_ | refine WP.skip ?_ ); simp only [go_sem]) | refine And.intro ?_ ?_ | intro _))
   all_goals first | omega | skip
  ·by_cases h1 : k = 1
   ·subst h1
    rw [k2k]
    (repeat' (first | refine WP.seq ?_ | refine WP.block ?_ | ((first | refine WP.region ?_ | refine WP.kAa ?_ | refine WP.ret ?_ | refine WP.exit ?_ | refine WP.skip ?_ ); simp only [go_sem]) | refine And.intro ?_ ?_ | intro _))
    all_goals first | omega | skip
   ·rw [k2m h0 h1 h7]
    (repeat' (first | refine WP.seq ?_ | refine WP.block ?_ | ((first | refine WP.region ?_ | refine WP.kAa ?_ | refine WP.ret ?_ | refine WP.exit ?_ | refine WP.skip ?_ ); simp only [go_sem, h0, h1, h7]) | refine And.intro ?_ ?_ | intro _))
    all_goals first | omega | skip
end
section
noncomputable def k6a : Cx := { P := Tryz.prog, tys := tys, C := [(57, k60), (94, kCf)], hty := kAp, hC := COk.cons c58 (COk.cons kR5 (COk.nil _)) }
theorem qGl : k6a.tys = tys := rfl
theorem qGm : k6a.C = [(57, k60), (94, kCf)] := rfl
attribute [local go_sem] qGl qGm k60 kCf
theorem k2b : Cn Tryz.prog 144 kD3 := by
 refine Cn.pur Tryz.func144 (by kernel_rfl) rfl fun d x hx => ?_
 obtain ⟨k, n, s⟩ := x
 unfold kEm at hx
 simp only at hx
 refine Holds.go (c := k6a) Tryz.func144 rfl Tryz.results144 Tryz.ntmps144 (by omega) (by simp) rfl ?_
 intro X0 w0
 by_cases h0 : k = 0
 ·subst h0
  rw [k2j]
  (repeat' (first | refine WP.seq ?_ | refine WP.block ?_ | ((first | refine WP.region ?_ | refine WP.kAa ?_ | refine WP.ret ?_ | refine WP.exit ?_ | refine WP.skip ?_ ); simp only [go_sem]) | refine And.intro ?_ ?_ | intro _))
  all_goals first | omega | skip
 ·by_cases h7 : k = 7
  ·subst h7
   rw [k2l]
   (repeat' (first | refine WP.seq ?_ | refine WP.block ?_ | ((first | refine WP.region ?_ | refine WP.kAa ?_ | refine WP.ret ?_ | refine WP.exit ?_ | refine WP.skip ?_ ); simp only [go_sem]) | refine And.intro ?_ ?_ | intro _))
   all_goals first | omega | skip
  ·by_cases h1 : k = 1
   ·subst h1
    rw [k2k]
    (repeat' (first | refine WP.seq ?_ | refine WP.block ?_ | ((first | refine WP.region ?_ | refine WP.kAa ?_ | refine WP.ret ?_ | refine WP.exit ?_ | refine WP.skip ?_ ); simp only [go_sem]) | refine And.intro ?_ ?_ | intro _))
    all_goals first | omega | skip
   ·rw [k2m h0 h1 h7]
    by_cases hr : 0 ≤ k ∧ k ≤ 7
    ·have e1 : decide (2 ≤ k) = true := by simp; omega
     have e2 : decide (k ≤ 6) = true := by simp; omega
     have e3 := hr.1
     have e4 := hr.2
     rw [e1, e2]
     (repeat' (first | refine WP.seq ?_ | refine WP.block ?_ | ((first | refine WP.region ?_ | refine WP.kAa ?_ | refine WP.ret ?_ | refine WP.exit ?_ | refine WP.skip ?_ ); simp only [go_sem, h0, h1, h7, e3, e4]) | refine And.intro ?_ ?_ | intro _))
     all_goals first | omega | skip
    ·have e : (decide (2 ≤ k) && decide (k ≤ 6)) = false := by simp; omega
     have e3 : (decide (0 ≤ k) && decide (k ≤ 7)) = false := by simp; omega
     rw [e]
     (repeat' (first | refine WP.seq ?_ | refine WP.block ?_ | ((first | refine WP.region ?_ | refine WP.kAa ?_ | refine WP.ret ?_ | refine WP.exit ?_ | refine WP.skip ?_ ); simp only [go_sem, h0, h1, h7, e3]) | refine And.intro ?_ ?_ | intro _))
     all_goals first | omega | skip
end
section
noncomputable def k6b : Cx := { P := Tryz.prog, tys := tys, C := [(149, kD3)], hty := kAp, hC := COk.cons kUw (COk.nil _) }
theorem qGn : k6b.tys = tys := rfl
theorem qGo : k6b.C = [(149, kD3)] := rfl
attribute [local go_sem] qGn qGo kD3
theorem qC6 : Cn Tryz.prog 174 kKv := by
 refine Cn.pur Tryz.func174 (by kernel_rfl) rfl fun d x hx => ?_
 obtain ⟨k, n, s⟩ := x
 unfold kEm at hx
 simp only at hx
 refine Holds.go (c := k6b) Tryz.func174 rfl Tryz.results174 Tryz.ntmps174 (by omega) (by simp) rfl ?_
 intro X0 w0
 cases h : kCl ⟨k, n, s⟩ with
 |false =>
  have e : arity ⟨k, n, s⟩ = -1 := by unfold arity; rw [h]; rfl
  rw [e]
  (repeat' (first | refine WP.seq ?_ | refine WP.block ?_ | ((first | refine WP.region ?_ | refine WP.kAa ?_ | refine WP.ret ?_ | refine WP.exit ?_ | refine WP.skip ?_ ); simp only [go_sem, h]) | refine And.intro ?_ ?_ | intro _))
  all_goals first | omega | exact hx | skip
 |true =>
  have e : arity ⟨k, n, s⟩ = (arN ⟨k, n, s⟩ : Int) := by unfold arity; rw [h]; rfl
  rw [e]
  have hc := kFh h
  simp only at hc
  by_cases h7 : k = 7
  ·have e2 : (arN ⟨k, n, s⟩ : Int) = n := by unfold arN; rw [if_pos h7]; show ((n.toNat : Nat) : Int) = n; omega
   rw [e2]
   subst h7
   (repeat' (first | refine WP.seq ?_ | refine WP.block ?_ | ((first | refine WP.region ?_ | refine WP.kAa ?_ | refine WP.ret ?_ | refine WP.exit ?_ | refine WP.skip ?_ ); simp only [go_sem, h]) | refine And.intro ?_ ?_ | intro _))
   all_goals first | omega | exact hx | skip
  ·by_cases h01 : k = 0 ∨ k = 1
   ·have e2 : (arN ⟨k, n, s⟩ : Int) = 0 := by unfold arN; rw [if_neg h7, if_pos h01]; rfl
    rw [e2]
    (repeat' (first | refine WP.seq ?_ | refine WP.block ?_ | ((first | refine WP.region ?_ | refine WP.kAa ?_ | refine WP.ret ?_ | refine WP.exit ?_ | refine WP.skip ?_ ); simp only [go_sem, h, h7, h01]) | refine And.intro ?_ ?_ | intro _))
    all_goals first | omega | exact hx | skip
   ·have e2 : (arN ⟨k, n, s⟩ : Int) = 2 := by unfold arN; rw [if_neg h7, if_neg h01]; rfl
    rw [e2]
    (repeat' (first | refine WP.seq ?_ | refine WP.block ?_ | ((first | refine WP.region ?_ | refine WP.kAa ?_ | refine WP.ret ?_ | refine WP.exit ?_ | refine WP.skip ?_ ); simp only [go_sem, h, h7, h01]) | refine And.intro ?_ ?_ | intro _))
    all_goals first | omega | exact hx | skip
end
section
noncomputable def k6c : Cx := { P := Tryz.prog, tys := tys, C := [(144, kD3)], hty := kAp, hC := COk.cons k2b (COk.nil _) }
theorem qGp : k6c.tys = tys := rfl
theorem qGq : k6c.C = [(144, kD3)] := rfl
attribute [local go_sem] qGp qGq kD3
theorem qC9 : Cn Tryz.prog 169 kKv := by
 refine Cn.pur Tryz.func169 (by kernel_rfl) rfl fun d x hx => ?_
 obtain ⟨k, n, s⟩ := x
 unfold kEm at hx
 simp only at hx
 refine Holds.go (c := k6c) Tryz.func169 rfl Tryz.results169 Tryz.ntmps169 (by omega) (by simp) rfl ?_
 intro X0 w0
 cases h : kCl ⟨k, n, s⟩ with
 |false =>
  have e : arity ⟨k, n, s⟩ = -1 := by unfold arity; rw [h]; rfl
  rw [e]
  (repeat' (first | refine WP.seq ?_ | refine WP.block ?_ | ((first | refine WP.region ?_ | refine WP.kAa ?_ | refine WP.ret ?_ | refine WP.exit ?_ | refine WP.skip ?_ ); simp only [go_sem, h]) | refine And.intro ?_ ?_ | intro _))
  all_goals first | omega | exact hx | skip
 |true =>
  have e : arity ⟨k, n, s⟩ = (arN ⟨k, n, s⟩ : Int) := by unfold arity; rw [h]; rfl
  rw [e]
  have hc := kFh h
  simp only at hc
  by_cases h7 : k = 7
  ·have e2 : (arN ⟨k, n, s⟩ : Int) = n := by unfold arN; rw [if_pos h7]; show ((n.toNat : Nat) : Int) = n; omega
   rw [e2]
   subst h7
   (repeat' (first | refine WP.seq ?_ | refine WP.block ?_ | ((first | refine WP.region ?_ | refine WP.kAa ?_ | refine WP.ret ?_ | refine WP.exit ?_ | refine WP.skip ?_ ); simp only [go_sem, h]) | refine And.intro ?_ ?_ | intro _))
   all_goals first | omega | exact hx | skip
  ·by_cases h01 : k = 0 ∨ k = 1
   ·have e2 : (arN ⟨k, n, s⟩ : Int) = 0 := by unfold arN; rw [if_neg h7, if_pos h01]; rfl
    rw [e2]
    (repeat' (first | refine WP.seq ?_ | refine WP.block ?_ | ((first | refine WP.region ?_ | refine WP.kAa ?_ | refine WP.ret ?_ | refine WP.exit ?_ | refine WP.skip ?_ ); simp only [go_sem, h, h7, h01]) | refine And.intro ?_ ?_ | intro _))
    all_goals first | omega | exact hx | skip
   ·have e2 : (arN ⟨k, n, s⟩ : Int) = 2 := by unfold arN; rw [if_neg h7, if_neg h01]; rfl
    rw [e2]
    (repeat' (first | refine WP.seq ?_ | refine WP.block ?_ | ((first | refine WP.region ?_ | refine WP.kAa ?_ | refine WP.ret ?_ | refine WP.exit ?_ | refine WP.skip ?_ ); simp only [go_sem, h, h7, h01]) | refine And.intro ?_ ?_ | intro _))
    all_goals first | omega | exact hx | skip
end
theorem op_cut {k : Int} (a : 2 ≤ k) (b : k ≤ 6) : (⟨#[43, 45, 42, 60, 61]⟩ : ByteArray).extract (k - 2).toNat (k - 2 + 1).toNat = bts [opB k] := by
 rcases kUr a b with q | q | q | q | q <;> rw [q] <;> decide
theorem qBv (s : ByteArray) (l : List UInt8) : s ++ bts l = bts (s.data.toList ++ l) := by
 conv => lhs; rw [← kEn s]
 rw [kLb]
theorem b47 : (⟨#[47]⟩ : ByteArray) = bts [47] := rfl
section
noncomputable def k6d : Cx := { P := Tryz.prog, tys := tys, C := [(149, kD3), (33, kFmt)], hty := kAp, hC := COk.cons kUw (COk.cons k4d (COk.nil _)) }
theorem qGr : k6d.tys = tys := rfl
theorem qGs : k6d.C = [(149, kD3), (33, kFmt)] := rfl
attribute [local go_sem] qGr qGs kD3 kFmt
theorem k8p : Cn Tryz.prog 126 kLa := by
 refine Cn.pur Tryz.func126 (by kernel_rfl) rfl fun d x hx => ?_
 obtain ⟨k, n, s⟩ := x
 unfold kEm at hx
 simp only at hx
 refine Holds.go (c := k6d) Tryz.func126 rfl Tryz.results126 Tryz.ntmps126 (by omega) (by simp) rfl ?_
 intro X0 w0
 cases h : kCl ⟨k, n, s⟩ with
 |false =>
  have e : kEj ⟨k, n, s⟩ = ⟨#[]⟩ := by unfold kEj; rw [h]; rfl
  rw [e]
  (repeat' (first | refine WP.seq ?_ | refine WP.block ?_ | ((first | refine WP.region ?_ | refine WP.kAa ?_ | refine WP.ret ?_ | refine WP.exit ?_ | refine WP.skip ?_ | refine WP.kAg 7 (by decide +kernel) (by kernel_rfl) ?_); simp only [go_sem, h]) | refine And.intro ?_ ?_ | intro _))
  all_goals first | omega | exact hx | skip
 |true =>
  have e : kEj ⟨k, n, s⟩ = bts (tokL ⟨k, n, s⟩) := by unfold kEj; rw [h]; rfl
  rw [e]
  rcases kFh h with ⟨a, b, c, d⟩ | ⟨a, b, c⟩ | ⟨a, b, c, d⟩ | ⟨a, b, c, d⟩
  ·simp only at a b c d
   have e2 : tokL ⟨k, n, s⟩ = fmtL n.toNat := by unfold tokL; rw [if_pos a]
   rw [e2]
   subst a
   (repeat' (first | refine WP.seq ?_ | refine WP.block ?_ | ((first | refine WP.region ?_ | refine WP.kAa ?_ | refine WP.ret ?_ | refine WP.exit ?_ | refine WP.skip ?_ | refine WP.kAg 7 (by decide +kernel) (by kernel_rfl) ?_); simp only [go_sem, h]) | refine And.intro ?_ ?_ | intro _))
   all_goals first | omega | exact hx | skip
  ·simp only at a b c
   have e2 : tokL ⟨k, n, s⟩ = s.data.toList := by subst a; rfl
   rw [e2, kEn]
   subst a
   (repeat' (first | refine WP.seq ?_ | refine WP.block ?_ | ((first | refine WP.region ?_ | refine WP.kAa ?_ | refine WP.ret ?_ | refine WP.exit ?_ | refine WP.skip ?_ | refine WP.kAg 7 (by decide +kernel) (by kernel_rfl) ?_); simp only [go_sem, h]) | refine And.intro ?_ ?_ | intro _))
   all_goals first | omega | exact hx | skip
  ·simp only at a b c d
   have e2 : tokL ⟨k, n, s⟩ = s.data.toList ++ 47 :: fmtL n.toNat := by subst a; rfl
   rw [e2]
   subst a
   have hl := kIk 1 n.toNat (by omega) (by omega)
   have hz := kBb (fmtL n.toNat)
   have hz2 := kBb (s.data.toList ++ [47])
   have hcc : s ++ (⟨#[47]⟩ : ByteArray) = bts (s.data.toList ++ [47]) := by rw [b47, qBv]
   have hcd := kLb (s.data.toList ++ [47]) (fmtL n.toNat)
   have hsl : s.data.toList.length = s.size := by simp
   have hn8 := (kBk d).2.2
   have hz1 : (⟨#[47]⟩ : ByteArray).size = 1 := rfl
   simp only [List.length_append, List.length_cons, List.length_nil] at hz2
   rw [show s.data.toList ++ 47 :: fmtL n.toNat = s.data.toList ++ [47] ++ fmtL n.toNat by simp]
   (repeat' (first | refine WP.seq ?_ | refine WP.block ?_ | ((first | refine WP.region ?_ | refine WP.kAa ?_ | refine WP.ret ?_ | refine WP.exit ?_ | refine WP.skip ?_ | refine WP.kAg 7 (by decide +kernel) (by kernel_rfl) ?_); simp only [go_sem, h, hcc, hcd, hz, hz1, hz2]) | refine And.intro ?_ ?_ | intro _))
   all_goals first | omega | exact hx | skip
  ·simp only at a b c d
   have e2 : tokL ⟨k, n, s⟩ = [opB k] := by unfold tokL; rw [if_neg (show ¬ k = 0 by omega), if_neg (show ¬ k = 1 by omega), if_neg (show ¬ k = 7 by omega)]
   rw [e2]
   have a0 : ¬ k = 0 := by omega
   have a1 : ¬ k = 1 := by omega
   have a7 : ¬ k = 7 := by omega
   have hc := op_cut a b
   have hz : (⟨#[43, 45, 42, 60, 61]⟩ : ByteArray).size = 5 := rfl
   (repeat' (first | refine WP.seq ?_ | refine WP.block ?_ | ((first | refine WP.region ?_ | refine WP.kAa ?_ | refine WP.ret ?_ | refine WP.exit ?_ | refine WP.skip ?_ | refine WP.kAg 7 (by decide +kernel) (by kernel_rfl) ?_); simp only [go_sem, h, a0, a1, a7, hc, hz]) | refine And.intro ?_ ?_ | intro _))
   all_goals first | omega | exact hx | skip
end
section
attribute [local go_sem] kD3 kFmt
end
end Go.Proofs.YtdhkhapbldkkdaaGreatDoor

namespace Go.Vc
def St.kNf (tys : List (Nat × TyD)) (C : List (FuncId × Ctr)) (N : Nat) (ops : Array Oper) (o : Oper) (st : St) (K : St → Prop) : Prop :=
 match o.guard with
 |none => st.step tys C N ops o K
 |some (j, want) => match (ops[j]?).bind (·.dst) with
  |some t => match kD8 want (st.get t) with
   |some false => kAy N o.dst = true ∧ K (st.put o.dst (.cond false (offV tys o)))
   |some true => st.kHb tys C N o K
   |none => False
  |none => False
def St.kQb (tys : List (Nat × TyD)) (C : List (FuncId × Ctr)) (N : Nat) (ops : Array Oper) : List Oper → St → (St → Prop) → Prop
 | [], st, K => K st
 |o :: l, st, K => st.kNf tys C N ops o fun st' => St.kQb tys C N ops l st' K
section
variable {P : Program} {tys : List (Nat × TyD)} {C : List (FuncId × Ctr)} {N : Nat} {X0 : Nat → Prop} {M : Nat → BV → Prop} {w0 : World} {st : St} {β : Nat → BV} {a : Act} {w : World}
theorem kYf (hA : Ap P X0 M w0) (hty : ∀ T d, lk T tys = some d → TyOk P T d) (hC : COk P C) (h : Sim N X0 M w0 st β a w) {ops : Array Oper} {o : Oper} {K : St → Prop} (hw : st.kNf tys C N ops o K) {Q : Exit → Act → World → Prop} :
  if Region.wanted o (yielded ops a.tmps) then o.wp P a w (Ok N X0 M w0 K) Q else Ok N X0 M w0 K (a.put o.dst undef) w := by
 unfold St.kNf at hw
 cases hg : o.guard with
 |none => rw [hg] at hw; exact kC8 hA hty hC h hw
 |some gw =>
  obtain ⟨j, want⟩ := gw
  rw [hg] at hw
  simp only at hw
  split at hw
  case h_2 => exact hw.elim
  case h_1 _ t ht =>
   split at hw
   case h_3 => exact hw.elim
   case h_2 _ hc =>
    have hwt := kPc h hg ht hc
    rw [hwt, if_pos rfl]
    exact kQ0 hA hty hC h hw
   case h_1 _ hc =>
    have hwt := kPc h hg ht hc
    rw [hwt, if_neg (by simp)]
    obtain ⟨hd, hK⟩ := hw
    cases hdd : o.dst with
    |none => rw [hdd] at hK; exact ⟨_, β, hK, h⟩
    |some d => rw [hdd] at hK hd; exact ⟨_, β, hK, h.put (by simpa [kAy] using hd) (.cond (fun hh => by cases hh) fun _ => rfl)⟩
theorem kMx (hA : Ap P X0 M w0) (hty : ∀ T d, lk T tys = some d → TyOk P T d) (hC : COk P C) {ops : Array Oper} {K : St → Prop} {Q : Exit → Act → World → Prop} (hQ : ∀ a w, Ok N X0 M w0 K a w → Q .normal a w) :
  ∀ (l : List Oper) {st : St} {β : Nat → BV} {a : Act} {w : World}, Sim N X0 M w0 st β a w → St.kQb tys C N ops l st K → wpList P ops Q l a w
 | [], st, β, a, w, h, hw => hQ a w ⟨st, β, hw, h⟩
 |o :: l, st, β, a, w, h, hw => by
  have h1 := kYf (Q := Q) hA hty hC h hw
  unfold wpList
  split
  ·rename_i hwt
   rw [if_pos hwt] at h1
   exact .inl (Oper.wp_mono (fun a' w' ⟨st', β', h2, h3⟩ => kMx hA hty hC hQ l h3 h2) h1)
  ·rename_i hwt
   rw [if_neg hwt] at h1
   obtain ⟨st', β', h2, h3⟩ := h1
   exact kMx hA hty hC hQ l h3 h2
end
section
variable {c : Cx} {N : Nat} {X0 : Nat → Prop} {M : Nat → BV → Prop} {w0 : World} {st : St} {K : Exit → St → Prop}
theorem WP.kDn {id : Nat} {l : List Oper} (h : St.kQb c.tys c.C N l.toArray l st (K .normal)) : WP c N X0 M w0 (.region id l.toArray false) st K := fun hA β a w hs =>
 wp_region_lit (kMx hA c.hty c.hC (fun a w hk => hk) l hs h)
end
end Go.Vc

