/-
  DERIVED. Several texts of ours in one: VpOrd, VpFmt, VpProf, VgEntry, VpEnt, VpKeep, VpNbr, VpBag, VpFrom, VpHide, VpDraw, VcRo, VpCur, VcX.
-/
import Derived.Test.YtahcfcimfcjhhaaGreatDoorVx0
import Derived.Test.YtahcfcimfcjhhaaGreatDoorVx1
import Derived.Test.YtahcfcimfcjhhaaGreatDoorVx2
import Derived.Test.YtahcfcimfcjhhaaGreatDoorVx3
import Derived.Test.YtahcfcimfcjhhaaGreatDoorVx4
import Derived.Laws.Strings
set_option linter.unusedSimpArgs false
set_option linter.unusedVariables false
/-
  DERIVED. Plain lists: the order of byte strings; lists that are sorted by a key; insertion.
-/
namespace Go.Pl
set_option linter.unusedVariables false
open Go

theorem bl_irrefl : ∀ l : List UInt8, Op.bytesLess l l = false
  | [] => rfl
  | a :: l => by simp [Op.bytesLess, bl_irrefl l]
theorem bl_tri : ∀ {x y : List UInt8}, Op.bytesLess x y = false → Op.bytesLess y x = false → x = y
  | [], [], _, _ => rfl
  | [], _ :: _, h, _ => by simp [Op.bytesLess] at h
  | _ :: _, [], _, h => by simp [Op.bytesLess] at h
  | a :: x, b :: y, h1, h2 => by
    simp only [Op.bytesLess, Bool.or_eq_false_iff, decide_eq_false_iff_not, Bool.and_eq_false_iff, beq_eq_false_iff_ne] at h1 h2
    have hab : a = b := UInt8.le_antisymm (UInt8.not_lt.1 h2.1) (UInt8.not_lt.1 h1.1)
    subst hab
    have e1 : Op.bytesLess x y = false := h1.2.resolve_left fun h => h rfl
    have e2 : Op.bytesLess y x = false := h2.2.resolve_left fun h => h rfl
    rw [bl_tri e1 e2]
theorem bl_trans : ∀ {x y z : List UInt8}, Op.bytesLess x y = true → Op.bytesLess y z = true → Op.bytesLess x z = true
  | _, [], _, h, _ => by simp [Op.bytesLess] at h
  | _, _ :: _, [], _, h => by simp [Op.bytesLess] at h
  | [], _ :: _, _ :: _, _, _ => rfl
  | a :: x, b :: y, c :: z, h1, h2 => by
    simp only [Op.bytesLess, Bool.or_eq_true, decide_eq_true_eq, Bool.and_eq_true, beq_iff_eq] at h1 h2 ⊢
    rcases h1 with h1 | ⟨rfl, h1⟩
    · rcases h2 with h2 | ⟨rfl, h2⟩
      · exact .inl (UInt8.lt_trans h1 h2)
      · exact .inl h1
    · rcases h2 with h2 | ⟨rfl, h2⟩
      · exact .inl h2
      · exact .inr ⟨rfl, bl_trans h1 h2⟩

def ltS (a b : ByteArray) : Bool := Op.bytesLess a.toList b.toList
theorem ltS_def (a b : ByteArray) : Op.bytesLess a.toList b.toList = ltS a b := rfl
theorem ba_toList_inj {a b : ByteArray} (h : a.toList = b.toList) : a = b := by
  rw [ByteArray.toList_eq, ByteArray.toList_eq] at h
  exact ByteArray.ext (Array.toList_inj.1 h)
theorem ltS_irrefl (a : ByteArray) : ltS a a = false := bl_irrefl _
theorem ltS_trans {a b c : ByteArray} (h1 : ltS a b = true) (h2 : ltS b c = true) : ltS a c = true := bl_trans h1 h2
theorem ltS_tri {a b : ByteArray} (h1 : ltS a b = false) (h2 : ltS b a = false) : a = b := ba_toList_inj (bl_tri h1 h2)
theorem ltS_asymm {a b : ByteArray} (h : ltS a b = true) : ltS b a = false := by
  cases h2 : ltS b a with
  | false => rfl
  | true => have := ltS_trans h h2; rw [ltS_irrefl] at this; cases this
theorem ltS_ne {a b : ByteArray} (h : ltS a b = true) : a ≠ b := fun e => by subst e; rw [ltS_irrefl] at h; cases h
/-- not less and not the same: greater -/
theorem ltS_gt {a b : ByteArray} (h1 : ltS a b = false) (h2 : a ≠ b) : ltS b a = true := by
  cases h : ltS b a with
  | true => rfl
  | false => exact absurd (ltS_tri h1 h) h2
theorem ltS_ntrans {a b c : ByteArray} (h1 : ltS a b = false) (h2 : ltS b c = false) : ltS a c = false := by
  cases h : ltS a c with
  | false => rfl
  | true =>
    by_cases hab : a = b
    · subst hab; rw [h2] at h; cases h
    · have := ltS_trans (ltS_gt h1 hab) h; rw [h2] at this; cases this

/-! ## sorted lists -/
section
variable {α : Type} (lt : α → α → Bool)

/-- strictly ascending -/
def Asc (L : List α) : Prop := L.Pairwise fun a b => lt a b = true
structure Strict : Prop where
  irrefl : ∀ a, lt a a = false
  trans : ∀ a b c, lt a b = true → lt b c = true → lt a c = true
variable {lt}
theorem Strict.asymm (h : Strict lt) {a b : α} (hab : lt a b = true) : lt b a = false := by
  cases h2 : lt b a with
  | false => rfl
  | true => have := h.trans _ _ _ hab h2; rw [h.irrefl] at this; cases this

/-- one ascending list of the same elements -/
theorem Asc.unique (h : Strict lt) : ∀ {L M : List α}, Asc lt L → Asc lt M → L.Perm M → L = M
  | [], M, _, _, hp => (List.Perm.nil_eq hp)
  | a :: L, [], _, _, hp => (by have := hp.length_eq; simp at this)
  | a :: L, b :: M, hL, hM, hp => by
    have hL' := List.pairwise_cons.1 hL
    have hM' := List.pairwise_cons.1 hM
    have hab : a = b := by
      have h1 : a ∈ b :: M := hp.subset List.mem_cons_self
      have h2 : b ∈ a :: L := hp.symm.subset List.mem_cons_self
      rcases List.mem_cons.1 h1 with e | e
      · exact e
      · rcases List.mem_cons.1 h2 with e2 | e2
        · exact e2.symm
        · have := h.asymm (hM'.1 a e); rw [hL'.1 b e2] at this; cases this
    subst hab
    rw [Asc.unique h hL'.2 hM'.2 (List.Perm.cons_inv hp)]

/-- x behind all that are less -/
def ins (lt : α → α → Bool) (x : α) (L : List α) : List α := L.takeWhile (fun y => lt y x) ++ x :: L.dropWhile (fun y => lt y x)
theorem ins_perm (x : α) (L : List α) : (ins lt x L).Perm (x :: L) := by
  unfold ins
  refine List.perm_middle.trans ?_
  rw [List.takeWhile_append_dropWhile]
theorem ins_mem {x y : α} {L : List α} : y ∈ ins lt x L ↔ y = x ∨ y ∈ L := by
  rw [(ins_perm (lt := lt) x L).mem_iff]; simp
theorem ins_len (x : α) (L : List α) : (ins lt x L).length = L.length + 1 := by
  rw [(ins_perm (lt := lt) x L).length_eq]; rfl
theorem mem_takeWhile' {p : α → Bool} : ∀ {L : List α} {a : α}, a ∈ L.takeWhile p → p a = true ∧ a ∈ L
  | b :: L, a, h => by
    rw [List.takeWhile_cons] at h
    split at h
    · rename_i hb
      rcases List.mem_cons.1 h with rfl | h
      · exact ⟨hb, List.mem_cons_self⟩
      · exact ⟨(mem_takeWhile' h).1, List.mem_cons_of_mem _ (mem_takeWhile' h).2⟩
    · cases h
  | [], a, h => by cases h
theorem asc_drop (h : Strict lt) {x : α} : ∀ {L : List α}, Asc lt L → (∀ y ∈ L, lt y x = true ∨ lt x y = true) → ∀ y ∈ L.dropWhile (fun y => lt y x), lt x y = true
  | [], _, _, y, hy => by cases hy
  | a :: L, hL, hx, y, hy => by
    have hL' := List.pairwise_cons.1 hL
    rw [List.dropWhile_cons] at hy
    split at hy
    · exact asc_drop h hL'.2 (fun y hy => hx y (List.mem_cons_of_mem _ hy)) y hy
    · rename_i ha
      have hxa : lt x a = true := (hx a List.mem_cons_self).resolve_left ha
      rcases List.mem_cons.1 hy with rfl | hy
      · exact hxa
      · exact h.trans _ _ _ hxa (hL'.1 y hy)
theorem ins_asc (h : Strict lt) {x : α} {L : List α} (hL : Asc lt L) (hx : ∀ y ∈ L, lt y x = true ∨ lt x y = true) : Asc lt (ins lt x L) := by
  have hd := asc_drop h hL hx
  unfold ins Asc
  have hs : (L.takeWhile (fun y => lt y x) ++ L.dropWhile (fun y => lt y x)).Pairwise fun a b => lt a b = true := by rw [List.takeWhile_append_dropWhile]; exact hL
  rw [List.pairwise_append] at hs ⊢
  refine ⟨hs.1, List.pairwise_cons.2 ⟨hd, hs.2.1⟩, fun a ha b hb => ?_⟩
  rcases List.mem_cons.1 hb with rfl | hb
  · exact (mem_takeWhile' ha).1
  · exact hs.2.2 a ha b hb

/-- the elements put in one after the other -/
def insAll (lt : α → α → Bool) (L : List α) : List α := L.foldl (fun acc x => ins lt x acc) []
theorem insAll_snoc (L : List α) (x : α) : insAll lt (L ++ [x]) = ins lt x (insAll lt L) := by simp [insAll]
theorem foldl_ins_perm : ∀ (L acc : List α), (L.foldl (fun acc x => ins lt x acc) acc).Perm (L ++ acc)
  | [], acc => List.Perm.refl _
  | x :: L, acc => by
    refine (foldl_ins_perm L _).trans ?_
    refine ((ins_perm (lt := lt) x acc).append_left L).trans ?_
    exact List.perm_middle
theorem insAll_perm (L : List α) : (insAll lt L).Perm L := by have := foldl_ins_perm (lt := lt) L []; rwa [List.append_nil] at this
theorem insAll_len (L : List α) : (insAll lt L).length = L.length := (insAll_perm L).length_eq
theorem insAll_mem {L : List α} {y : α} : y ∈ insAll lt L ↔ y ∈ L := (insAll_perm L).mem_iff
theorem insAll_asc_aux (h : Strict lt) : ∀ (L acc : List α), Asc lt acc → (L ++ acc).Pairwise (fun a b => lt a b = true ∨ lt b a = true) → Asc lt (L.foldl (fun acc x => ins lt x acc) acc)
  | [], acc, ha, _ => ha
  | x :: L, acc, ha, hp => by
    have hp' := List.pairwise_cons.1 hp
    refine insAll_asc_aux h L _ (ins_asc h ha fun y hy => (hp'.1 y (List.mem_append_right _ hy)).symm) ?_
    have hp2 := List.pairwise_append.1 hp'.2
    refine List.pairwise_append.2 ⟨hp2.1, ?_, fun a hA b hb => ?_⟩
    · have : (x :: acc).Pairwise (fun a b => lt a b = true ∨ lt b a = true) := List.pairwise_cons.2 ⟨fun y hy => hp'.1 y (List.mem_append_right _ hy), hp2.2.1⟩
      exact ((ins_perm (lt := lt) x acc).pairwise_iff (fun h => h.symm)).2 this
    · rcases ins_mem.1 hb with rfl | hb
      · exact (hp'.1 a (List.mem_append_left _ hA)).symm
      · exact hp2.2.2 a hA b hb
theorem insAll_asc (h : Strict lt) {L : List α} (hp : L.Pairwise fun a b => lt a b = true ∨ lt b a = true) : Asc lt (insAll lt L) :=
  insAll_asc_aux h L [] List.Pairwise.nil (by rwa [List.append_nil])
/-- whatever is sorted of the same elements is this -/
theorem insAll_unique (h : Strict lt) {L M : List α} (hp : L.Pairwise fun a b => lt a b = true ∨ lt b a = true) (hM : M.Perm L) (hs : M.Pairwise fun a b => lt b a = false) : M = insAll lt L := by
  have hMp : M.Pairwise fun a b => lt a b = true ∨ lt b a = true := (hM.pairwise_iff (fun h => h.symm)).2 hp
  have hMA : Asc lt M := by
    unfold Asc
    refine (hs.and hMp).imp ?_
    rintro a b ⟨h1, h2⟩
    exact h2.resolve_right (by rw [h1]; simp)
  exact Asc.unique h hMA (insAll_asc h hp) (hM.trans (insAll_perm L).symm)
end
end Go.Pl

/-
  DERIVED. Plain lists: frames and their text.
-/
namespace Go.Proofs.YtahcfcimfcjhhaaGreatDoor
set_option linter.unusedVariables false

/-! ## texts joined and cut at a sign -/
def joinL (c : UInt8) : List (List UInt8) → List UInt8
  | [] => []
  | [x] => x
  | x :: y :: l => x ++ c :: joinL c (y :: l)
def cutL (c : UInt8) : List UInt8 → List (List UInt8)
  | [] => [[]]
  | b :: l => if b = c then [] :: cutL c l else match cutL c l with
    | [] => [[b]]
    | x :: xs => (b :: x) :: xs
theorem cutL_ne (c : UInt8) : ∀ l, cutL c l ≠ []
  | [] => by simp [cutL]
  | b :: l => by
    unfold cutL
    split
    · simp
    · split <;> simp
theorem cutL_plain (c : UInt8) : ∀ {l : List UInt8}, c ∉ l → cutL c l = [l]
  | [], _ => rfl
  | b :: l, h => by
    simp only [List.mem_cons, not_or] at h
    unfold cutL
    rw [if_neg (fun e => h.1 e.symm), cutL_plain c h.2]
theorem cutL_app (c : UInt8) : ∀ {x : List UInt8} (l : List UInt8), c ∉ x → cutL c (x ++ c :: l) = x :: cutL c l
  | [], l, _ => by rw [List.nil_append, cutL, if_pos rfl]
  | b :: x, l, h => by
    simp only [List.mem_cons, not_or] at h
    rw [List.cons_append, cutL, if_neg (fun e => h.1 e.symm), cutL_app c l h.2]
theorem cutL_join (c : UInt8) : ∀ {L : List (List UInt8)}, L ≠ [] → (∀ x ∈ L, c ∉ x) → cutL c (joinL c L) = L
  | [x], _, h => by rw [joinL]; exact cutL_plain c (h x (by simp))
  | x :: y :: l, _, h => by
    rw [joinL, cutL_app c _ (h x (by simp)), cutL_join c (by simp) (fun z hz => h z (List.mem_cons_of_mem _ hz))]
theorem joinL_snoc (c : UInt8) : ∀ (L : List (List UInt8)) (x : List UInt8), joinL c (L ++ [x]) = if L = [] then x else joinL c L ++ c :: x
  | [], x => rfl
  | [y], x => by simp [joinL]
  | y :: z :: l, x => by
    have ih := joinL_snoc c (z :: l) x
    rw [if_neg (by simp)] at ih ⊢
    show joinL c (y :: z :: (l ++ [x])) = _
    rw [joinL, show z :: (l ++ [x]) = (z :: l) ++ [x] from rfl, ih, joinL]
    simp

/-! ## frames -/
def frOk (f : Frame) : Bool := nameOk f.name && decide (0 ≤ f.line) && decide (f.line ≤ 59)
theorem frOk_iff {f : Frame} : frOk f = true ↔ nameOk f.name = true ∧ 0 ≤ f.line ∧ f.line ≤ 59 := by simp [frOk, and_assoc]
def frTxt (f : Frame) : List UInt8 := f.name.data.toList ++ 58 :: fmtL f.line.toNat
def fmtF (L : List Frame) : ByteArray := if L.all frOk = true then bts (joinL 59 (L.map frTxt)) else ⟨#[]⟩
def partF (p : List UInt8) : Option Frame := match cutL 58 p with
  | [n, d] => Option.map (fun (v : Nat) => (⟨bts n, (v : Int)⟩ : Frame)) (parseU (bts d))
  | _ => none
def parseF (s : ByteArray) : Option (List Frame) := match (cutL 59 s.data.toList).mapM partF with
  | some L => if s.size ≠ 0 ∧ fmtF L = s then some L else none
  | none => none

theorem nameOk_letters {s : ByteArray} (h : nameOk s = true) : (∀ c ∈ s.data.toList, 97 ≤ c.toNat ∧ c.toNat ≤ 122) ∧ 1 ≤ s.size ∧ s.size ≤ 8 := by
  simp only [nameOk, Bool.and_eq_true, decide_eq_true_eq, List.all_eq_true] at h
  exact ⟨fun c hc => by have := h.1.1 c hc; simpa [letter] using this, h.1.2, h.2⟩
theorem decB_dig : ∀ (n k : Nat), k ≤ n → ∀ c ∈ decB k, 48 ≤ c.toNat ∧ c.toNat ≤ 57
  | 0, k, hk, c, hc => by
    have : k = 0 := by omega
    subst this; simp [decB] at hc
  | n + 1, k, hk, c, hc => by
    rcases Nat.eq_zero_or_pos k with h0 | h0
    · subst h0; simp [decB] at hc
    · rw [decB_pos k h0, List.mem_append] at hc
      rcases hc with hc | hc
      · exact decB_dig n (k / 10) (by omega) c hc
      · simp only [List.mem_cons, List.not_mem_nil, or_false] at hc
        subst hc
        have : (UInt8.ofNat (48 + k % 10)).toNat = 48 + k % 10 := by simp [UInt8.toNat_ofNat']; omega
        omega
theorem fmtL_dig (k : Nat) : ∀ c ∈ fmtL k, 48 ≤ c.toNat ∧ c.toNat ≤ 57 := by
  intro c hc
  unfold fmtL at hc
  split at hc
  · simp only [List.mem_cons, List.not_mem_nil, or_false] at hc; subst hc; decide
  · exact decB_dig k k (Nat.le_refl _) c hc
theorem fmtL_ne (k : Nat) : fmtL k ≠ [] := by
  unfold fmtL
  split
  · simp
  · rename_i h; rw [decB_pos k (by omega)]; simp
theorem decB_valL_id : ∀ (n k : Nat), k ≤ n → valL (decB k) = k
  | 0, k, hk => by
    have : k = 0 := by omega
    subst this; simp [decB, valL]
  | n + 1, k, hk => by
    rcases Nat.eq_zero_or_pos k with h0 | h0
    · subst h0; simp [decB, valL]
    · rw [decB_pos k h0, valL_snoc, decB_valL_id n (k / 10) (by omega)]
      have : (UInt8.ofNat (48 + k % 10)).toNat = 48 + k % 10 := by simp [UInt8.toNat_ofNat']; omega
      omega
theorem valL_fmtL (k : Nat) : valL (fmtL k) = k := by
  unfold fmtL
  split
  · rename_i h; subst h; simp [valL]
  · exact decB_valL_id k k (Nat.le_refl _)
theorem fmtL_len (n k : Nat) (h : k < 10 ^ n) (hn : 0 < n) : (fmtL k).length ≤ n := by
  unfold fmtL
  split
  · simp only [List.length_cons, List.length_nil]; omega
  · exact decB_len n k h
/-- a number's text is read as that number -/
theorem parseU_fmtL (k : Nat) (h : k ≤ 1000000000) : parseU (bts (fmtL k)) = some k := by
  have hd : (fmtL k).all dig = true := by
    rw [List.all_eq_true]
    intro c hc
    exact dig_iff.2 (fmtL_dig k c hc)
  have hl : (bts (fmtL k)).data.toList = fmtL k := by simp [bts]
  have hv : valN (bts (fmtL k)) (bts (fmtL k)).size = k := by rw [valN_all, hl, valL_fmtL]
  have hsz := bts_size (fmtL k)
  have hlen := fmtL_len 10 k (by omega) (by omega)
  have hne := fmtL_ne k
  have h1 := fmtL_valL (fmtL k) hd
  rw [valL_fmtL] at h1
  have h2 := h1.1 rfl
  unfold parseU
  rw [if_pos, hv]
  refine ⟨fun e => hne (List.eq_nil_of_length_eq_zero (by omega)), by omega, fun ⟨a, b⟩ => h2.2 ⟨by omega, ?_⟩, by rw [hl]; exact hd, by rw [hv]; exact h⟩
  have := head_get (bts (fmtL k)) (by omega)
  rw [hl, b] at this
  exact this
theorem frTxt_no59 {f : Frame} (h : frOk f = true) : (59 : UInt8) ∉ frTxt f := by
  intro hc
  obtain ⟨h1, _⟩ := frOk_iff.1 h
  unfold frTxt at hc
  rcases List.mem_append.1 hc with hc | hc
  · have := (nameOk_letters h1).1 _ hc
    have e : (59 : UInt8).toNat = 59 := rfl
    omega
  · rcases List.mem_cons.1 hc with hc | hc
    · exact absurd hc (by decide)
    · have := fmtL_dig _ _ hc
      have e : (59 : UInt8).toNat = 59 := rfl
      omega
theorem partF_txt {f : Frame} (h : frOk f = true) : partF (frTxt f) = some f := by
  obtain ⟨h1, h2, h3⟩ := frOk_iff.1 h
  have hn : (58 : UInt8) ∉ f.name.data.toList := fun hc => by
    have := (nameOk_letters h1).1 _ hc
    have e : (58 : UInt8).toNat = 58 := rfl
    omega
  have hd : (58 : UInt8) ∉ fmtL f.line.toNat := fun hc => by
    have := fmtL_dig _ _ hc
    have e : (58 : UInt8).toNat = 58 := rfl
    omega
  unfold partF frTxt
  rw [cutL_app 58 _ hn, cutL_plain 58 hd]
  simp only
  rw [parseU_fmtL _ (by omega), bts_list]
  obtain ⟨name, line⟩ := f
  simp only at h2 ⊢
  rw [Option.map_some]
  congr 2
  omega
theorem mapM_partF : ∀ {L : List Frame}, L.all frOk = true → (L.map frTxt).mapM partF = some L
  | [], _ => rfl
  | f :: L, h => by
    simp only [List.all_cons, Bool.and_eq_true] at h
    simp [partF_txt h.1, mapM_partF h.2]
theorem frTxt_len {f : Frame} (h : frOk f = true) : 3 ≤ (frTxt f).length ∧ (frTxt f).length ≤ 11 := by
  obtain ⟨h1, h2, h3⟩ := frOk_iff.1 h
  have hn := nameOk_letters h1
  have hl := fmtL_len 2 f.line.toNat (by omega) (by omega)
  have hp := List.length_pos_iff.2 (fmtL_ne f.line.toNat)
  unfold frTxt
  have : f.name.data.toList.length = f.name.size := by simp
  simp only [List.length_append, List.length_cons]
  omega
theorem joinL_len : ∀ (L : List (List UInt8)) (n : Nat), (∀ x ∈ L, x.length ≤ n) → (joinL 59 L).length ≤ (n + 1) * L.length
  | [], n, _ => by simp [joinL]
  | [x], n, h => by have := h x (by simp); simp only [joinL, List.length_cons, List.length_nil]; omega
  | x :: y :: l, n, h => by
    have ih := joinL_len (y :: l) n fun z hz => h z (List.mem_cons_of_mem _ hz)
    have := h x (by simp)
    simp only [joinL, List.length_append, List.length_cons] at ih ⊢
    have e : (n + 1) * (l.length + 1 + 1) = (n + 1) * (l.length + 1) + (n + 1) := by rw [Nat.mul_add]; omega
    omega
theorem fmtF_size (L : List Frame) : (fmtF L).size ≤ 12 * L.length := by
  unfold fmtF
  split
  · rename_i h
    rw [bts_size]
    have := joinL_len (L.map frTxt) 11 (fun x hx => by
      obtain ⟨f, hf, rfl⟩ := List.mem_map.1 hx
      exact (frTxt_len (List.all_eq_true.1 h f hf)).2)
    simpa using this
  · simp [ByteArray.size]
theorem fmtF_ne {L : List Frame} (h : L.all frOk = true) (hne : L ≠ []) : (fmtF L).size ≠ 0 := by
  unfold fmtF
  rw [if_pos h, bts_size]
  match L, hne with
  | [f], _ =>
    have := (frTxt_len (f := f) (by simpa using h)).1
    simp only [List.map_cons, List.map_nil, joinL]; omega
  | f :: g :: l, _ => simp [joinL]
/-- what is written is read -/
theorem parseF_fmtF {L : List Frame} (h : L.all frOk = true) (hne : L ≠ []) : parseF (fmtF L) = some L := by
  have e : fmtF L = bts (joinL 59 (L.map frTxt)) := by unfold fmtF; rw [if_pos h]
  have hl : (fmtF L).data.toList = joinL 59 (L.map frTxt) := by rw [e]; simp [bts]
  unfold parseF
  rw [hl, cutL_join 59 (by simpa using hne) (fun x hx => by
    obtain ⟨f, hf, rfl⟩ := List.mem_map.1 hx
    exact frTxt_no59 (List.all_eq_true.1 h f hf)), mapM_partF h]
  simp only
  rw [if_pos ⟨fmtF_ne h hne, by first | rfl | trivial⟩]
/-- what is read is frames' text -/
theorem parseF_some {s : ByteArray} {L : List Frame} (h : parseF s = some L) : fmtF L = s ∧ L ≠ [] ∧ L.all frOk = true := by
  unfold parseF at h
  split at h
  · rename_i M hM
    split at h
    · rename_i h2
      cases h
      refine ⟨h2.2, fun e => ?_, ?_⟩
      · subst e
        have := h2.2
        simp only [fmtF, List.all_nil, List.map_nil, joinL, if_true] at this
        exact h2.1 (by rw [← this]; rfl)
      · by_cases ha : L.all frOk = true
        · exact ha
        · have := h2.2
          unfold fmtF at this
          rw [if_neg ha] at this
          exact absurd (by rw [← this]; rfl) h2.1
    · cases h
  · cases h
theorem fmtF_inj {L M : List Frame} (hL : L.all frOk = true) (hM : M.all frOk = true) (hl : L ≠ []) (hm : M ≠ []) (h : fmtF L = fmtF M) : L = M := by
  have h1 := parseF_fmtF hL hl
  rw [h, parseF_fmtF hM hm] at h1
  exact (Option.some.inj h1).symm
end Go.Proofs.YtahcfcimfcjhhaaGreatDoor

/-
  DERIVED. Plain lists: interned stacks and profiles.
-/
namespace Go.Proofs.YtahcfcimfcjhhaaGreatDoor
set_option linter.unusedVariables false
open Go.Pl

def nodeFr (x : Node) : Frame := ⟨x.name, x.line⟩
def mkNode (p : Int) (f : Frame) : Node := ⟨p, f.name, f.line⟩

def stNode (N : List Node) (k : Nat) (x : Node) : Bool := decide (-1 ≤ x.parent) && decide (x.parent ≤ (k : Int) - 1) && frOk (nodeFr x) && (N.take k).all fun y => decide (y ≠ x)
theorem stNode_iff {N : List Node} {k : Nat} {x : Node} : stNode N k x = true ↔ -1 ≤ x.parent ∧ x.parent ≤ (k : Int) - 1 ∧ frOk (nodeFr x) = true ∧ ∀ y ∈ N.take k, y ≠ x := by
  simp [stNode, and_assoc]
def stacksOk (N : List Node) : Bool := decide (∀ k (h : k < N.length), stNode N k N[k] = true)
theorem stacksOk_at {N : List Node} (h : stacksOk N = true) (k : Nat) (hk : k < N.length) : stNode N k N[k] = true := by
  unfold stacksOk at h
  exact of_decide_eq_true h k hk
theorem stacksOk_bad {N : List Node} {k : Nat} (hk : k < N.length) (h : stNode N k N[k] = false) : stacksOk N = false := by
  cases hs : stacksOk N with
  | false => rfl
  | true => rw [stacksOk_at hs k hk] at h; cases h
theorem stacksOk_all {N : List Node} (h : ∀ k (h : k < N.length), stNode N k N[k] = true) : stacksOk N = true := by
  unfold stacksOk
  exact decide_eq_true h
theorem stNode_dup {N : List Node} {k i : Nat} (hk : k < N.length) (hi : i < k) (h : N[i]'(by omega) = N[k]) : stNode N k N[k] = false := by
  cases hs : stNode N k N[k] with
  | false => rfl
  | true => exact absurd h ((stNode_iff.1 hs).2.2.2 _ (by
      rw [List.mem_take_iff_getElem]
      exact ⟨i, by omega, rfl⟩))
theorem stNode_ok {N : List Node} {k : Nat} {x : Node} (h1 : -1 ≤ x.parent) (h2 : x.parent ≤ (k : Int) - 1) (h3 : frOk (nodeFr x) = true) (h4 : ∀ i (hi : i < N.length), i < k → N[i] ≠ x) : stNode N k x = true := by
  refine stNode_iff.2 ⟨h1, h2, h3, fun y hy => ?_⟩
  rw [List.mem_take_iff_getElem] at hy
  obtain ⟨i, hi, rfl⟩ := hy
  exact h4 i (by omega) (by omega)

/-! ## child, stack -/
def hitNode (p : Int) (f : Frame) (x : Node) : Bool := decide (x.parent = p) && decide (nodeFr x = f)
def child (N : List Node) (p : Int) (f : Frame) : Int := firstIdx (hitNode p f) N
theorem firstIdx_bound {α : Type} (p : α → Bool) (L : List α) : -1 ≤ firstIdx p L ∧ firstIdx p L < L.length ∨ firstIdx p L = -1 := by
  unfold firstIdx
  split
  · rename_i i h
    have := (List.findIdx?_eq_some_iff_getElem.1 h).1
    left; omega
  · right; rfl
theorem child_bound (N : List Node) (p : Int) (f : Frame) : -1 ≤ child N p f ∧ child N p f < N.length := by
  have := firstIdx_bound (hitNode p f) N
  unfold child
  omega
def upF (N : List Node) : Nat → Int → List Frame
  | 0, _ => []
  | n + 1, k => if k < 0 then [] else match N[k.toNat]? with
    | some x => nodeFr x :: upF N n x.parent
    | none => []
def stackAt (N : List Node) (k : Int) : List Frame := if stacksOk N = true ∧ 0 ≤ k ∧ k < N.length then (upF N (k.toNat + 1) k).reverse else []
theorem upF_len (N : List Node) : ∀ f k, (upF N f k).length ≤ f
  | 0, _ => by simp [upF]
  | f + 1, k => by
    rw [upF]
    split
    · simp
    · split
      · rename_i x _
        have := upF_len N f x.parent
        simp only [List.length_cons]; omega
      · simp
theorem upF_neg (N : List Node) (f : Nat) (k : Int) (h : k < 0) : upF N f k = [] := by
  cases f with
  | zero => rfl
  | succ f => rw [upF, if_pos h]
theorem upF_pos (N : List Node) (f q : Nat) (h : q < N.length) (hf : q < f) : upF N f q = nodeFr N[q] :: upF N (f - 1) N[q].parent := by
  obtain ⟨f, rfl⟩ : ∃ g, f = g + 1 := ⟨f - 1, by omega⟩
  rw [upF, if_neg (by omega), Int.toNat_natCast, List.getElem?_eq_getElem h]
  rfl
theorem stackAt_len (N : List Node) (k : Int) : (stackAt N k).length ≤ N.length := by
  unfold stackAt
  split
  · rw [List.length_reverse]; have := upF_len N (k.toNat + 1) k; omega
  · simp
/-- enough fuel is enough -/
theorem upF_fuel {N : List Node} (hok : stacksOk N = true) : ∀ (n f g q : Nat), q < n → q < N.length → q < f → q < g → upF N f q = upF N g q
  | 0, f, g, q, h, _, _, _ => by omega
  | n + 1, f, g, q, h, hq, hf, hg => by
    rw [upF_pos N f q hq hf, upF_pos N g q hq hg]
    congr 1
    have hn := stNode_iff.1 (stacksOk_at hok q hq)
    rcases Int.lt_or_le N[q].parent 0 with h0 | h0
    · rw [upF_neg _ _ _ h0, upF_neg _ _ _ h0]
    · obtain ⟨r, hr⟩ := Int.eq_ofNat_of_zero_le h0
      rw [hr] at hn ⊢
      exact upF_fuel hok n (f - 1) (g - 1) r (by omega) (by omega) (by omega) (by omega)
theorem upF_ok {N : List Node} (hok : stacksOk N = true) : ∀ (f : Nat) (k : Int), k < N.length → (upF N f k).all frOk = true
  | 0, _, _ => rfl
  | f + 1, k, hk => by
    rcases Int.lt_or_le k 0 with h0 | h0
    · rw [upF_neg _ _ _ h0]; rfl
    · obtain ⟨q, rfl⟩ := Int.eq_ofNat_of_zero_le h0
      have hq : q < N.length := by omega
      have hn := stNode_iff.1 (stacksOk_at hok q hq)
      rw [upF, if_neg (by omega), Int.toNat_natCast, List.getElem?_eq_getElem hq]
      simp only [List.all_cons, Bool.and_eq_true]
      exact ⟨hn.2.2.1, upF_ok hok f _ (by omega)⟩
theorem stackAt_ok (N : List Node) (k : Int) : (stackAt N k).all frOk = true := by
  unfold stackAt
  split
  · rename_i h; rw [List.all_reverse]; exact upF_ok h.1 _ _ h.2.2
  · rfl
theorem stackAt_ne {N : List Node} (hok : stacksOk N = true) (q : Nat) (hq : q < N.length) : stackAt N q ≠ [] := by
  unfold stackAt
  rw [if_pos ⟨hok, by omega, by omega⟩, Int.toNat_natCast, upF_pos N (q + 1) q hq (by omega)]
  simp
/-- two nodes of one stack are one node -/
theorem upF_inj {N : List Node} (hok : stacksOk N = true) : ∀ (n j k f g : Nat), j < n → j < N.length → k < N.length → j < f → k < g → upF N f j = upF N g k → j = k
  | 0, j, k, f, g, h, _, _, _, _, _ => by omega
  | n + 1, j, k, f, g, h, hj, hk, hf, hg, he => by
    rw [upF_pos N f j hj hf, upF_pos N g k hk hg] at he
    have h1 := (List.cons.inj he).1
    have h2 := (List.cons.inj he).2
    have nj := stNode_iff.1 (stacksOk_at hok j hj)
    have nk := stNode_iff.1 (stacksOk_at hok k hk)
    have hp : N[j].parent = N[k].parent := by
      rcases Int.lt_or_le N[j].parent 0 with a | a <;> rcases Int.lt_or_le N[k].parent 0 with b | b
      · omega
      · obtain ⟨r, hr⟩ := Int.eq_ofNat_of_zero_le b
        rw [upF_neg _ _ _ a, hr, upF_pos N (g - 1) r (by omega) (by omega)] at h2
        cases h2
      · obtain ⟨r, hr⟩ := Int.eq_ofNat_of_zero_le a
        rw [upF_neg _ _ _ b, hr, upF_pos N (f - 1) r (by omega) (by omega)] at h2
        cases h2
      · obtain ⟨r, hr⟩ := Int.eq_ofNat_of_zero_le a
        obtain ⟨s, hs⟩ := Int.eq_ofNat_of_zero_le b
        rw [hr, hs] at h2
        have := upF_inj hok n r s (f - 1) (g - 1) (by omega) (by omega) (by omega) (by omega) (by omega) h2
        omega
    have hxy : N[j] = N[k] := by
      have : ∀ x y : Node, nodeFr x = nodeFr y → x.parent = y.parent → x = y := by
        rintro ⟨a, b, c⟩ ⟨d, e, g⟩ h1 h2
        simp only [nodeFr, Frame.mk.injEq] at h1 h2
        obtain ⟨rfl, rfl⟩ := h1
        have h2 : a = d := h2
        rw [h2]
      exact this _ _ h1 hp
    rcases Nat.lt_trichotomy j k with hlt | heq | hgt
    · have := stNode_dup hk hlt hxy; rw [stacksOk_at hok k hk] at this; cases this
    · exact heq
    · have := stNode_dup hj hgt hxy.symm; rw [stacksOk_at hok j hj] at this; cases this
theorem stackAt_inj {N : List Node} (hok : stacksOk N = true) {j k : Nat} (hj : j < N.length) (hk : k < N.length) (h : stackAt N j = stackAt N k) : j = k := by
  unfold stackAt at h
  rw [if_pos ⟨hok, by omega, by omega⟩, if_pos ⟨hok, by omega, by omega⟩, Int.toNat_natCast, Int.toNat_natCast] at h
  exact upF_inj hok (j + 1) j k _ _ (by omega) hj hk (by omega) (by omega) (List.reverse_inj.1 h)

/-! ## interning -/
def intGo : List Frame → List Node × Int → List Node × Int
  | [], s => s
  | f :: L, s => intGo L (if child s.1 s.2 f < 0 then (s.1 ++ [mkNode s.2 f], (s.1.length : Int)) else (s.1, child s.1 s.2 f))
def intern (N : List Node) (L : List Frame) : List Node × Int := if stacksOk N = true ∧ L ≠ [] ∧ L.all frOk = true then intGo L (N, -1) else (N, -1)
theorem intGo_len : ∀ (L : List Frame) (s : List Node × Int), s.1.length ≤ (intGo L s).1.length ∧ (intGo L s).1.length ≤ s.1.length + L.length
  | [], s => by simp [intGo]
  | f :: L, s => by
    have := intGo_len L (if child s.1 s.2 f < 0 then (s.1 ++ [mkNode s.2 f], (s.1.length : Int)) else (s.1, child s.1 s.2 f))
    rw [intGo]
    simp only [List.length_cons]
    split at this
    · rename_i h; rw [if_pos h]; simp only [List.length_append, List.length_cons, List.length_nil] at this; omega
    · rename_i h; rw [if_neg h]; simp only at this; omega
theorem intGo_at : ∀ (L : List Frame) (s : List Node × Int), (L = [] → 0 ≤ s.2 ∧ s.2 < s.1.length) → 0 ≤ (intGo L s).2 ∧ (intGo L s).2 < (intGo L s).1.length
  | [], s, h => h rfl
  | f :: L, s, h => by
    rw [intGo]
    refine intGo_at L _ fun _ => ?_
    have := child_bound s.1 s.2 f
    split
    · simp only [List.length_append, List.length_cons, List.length_nil]; omega
    · simp only; omega
theorem intern_len (N : List Node) (L : List Frame) : N.length ≤ (intern N L).1.length ∧ (intern N L).1.length ≤ N.length + L.length := by
  unfold intern
  split
  · have := intGo_len L (N, -1); simpa using this
  · simp only; omega
theorem intern_at (N : List Node) (L : List Frame) : (intern N L).2 = -1 ∨ (0 ≤ (intern N L).2 ∧ (intern N L).2 < (intern N L).1.length) := by
  unfold intern
  split
  · rename_i h
    right
    exact intGo_at L (N, -1) fun e => absurd e h.2.1
  · left; rfl
theorem intGo_names {B : Nat} : ∀ (L : List Frame) (s : List Node × Int), (∀ x ∈ s.1, x.name.size ≤ B) → (∀ f ∈ L, f.name.size ≤ B) → ∀ x ∈ (intGo L s).1, x.name.size ≤ B
  | [], s, h, _ => h
  | f :: L, s, h, hL => by
    rw [intGo]
    refine intGo_names L _ ?_ fun g hg => hL g (List.mem_cons_of_mem _ hg)
    split
    · intro x hx
      rcases List.mem_append.1 hx with hx | hx
      · exact h x hx
      · simp only [List.mem_cons, List.not_mem_nil, or_false] at hx
        subst hx
        exact hL f List.mem_cons_self
    · exact h
theorem intern_names {B : Nat} {N : List Node} {L : List Frame} (h : ∀ x ∈ N, x.name.size ≤ B) (hL : ∀ f ∈ L, f.name.size ≤ B) : ∀ x ∈ (intern N L).1, x.name.size ≤ B := by
  unfold intern
  split
  · exact intGo_names L _ h hL
  · exact h

/-! ## profiles -/
def MaxC : Int := 1000000000000
def cntOk (C : List Int) : Bool := decide (∀ k (h : k < C.length), 0 ≤ C[k] ∧ C[k] ≤ 1000000000000 - (C.take k).sum)
def profileOk (N : List Node) (C : List Int) : Bool := stacksOk N && decide (C.length = N.length) && cntOk C
theorem cntOk_at {C : List Int} (h : cntOk C = true) (k : Nat) (hk : k < C.length) : 0 ≤ C[k] ∧ C[k] ≤ 1000000000000 - (C.take k).sum := by
  unfold cntOk at h
  exact of_decide_eq_true h k hk
theorem take_sum (C : List Int) (k : Nat) (hk : k < C.length) : (C.take (k + 1)).sum = (C.take k).sum + C[k] := by
  rw [List.take_succ_eq_append_getElem hk, List.sum_append]; simp
theorem cntOk_sum {C : List Int} (h : ∀ j (hj : j < C.length), 0 ≤ C[j] ∧ C[j] ≤ 1000000000000 - (C.take j).sum) : ∀ k, k ≤ C.length → 0 ≤ (C.take k).sum ∧ (C.take k).sum ≤ 1000000000000
  | 0, _ => by simp
  | k + 1, hk => by
    have ih := cntOk_sum h k (by omega)
    have := h k (by omega)
    rw [take_sum C k (by omega)]; omega
theorem profileOk_iff {N : List Node} {C : List Int} : profileOk N C = true ↔ stacksOk N = true ∧ C.length = N.length ∧ cntOk C = true := by
  simp [profileOk, and_assoc]
def totalOf (N : List Node) (C : List Int) : Int := if profileOk N C = true then C.sum else 0
theorem profileOk_sum {N : List Node} {C : List Int} (h : profileOk N C = true) (k : Nat) (hk : k ≤ C.length) : 0 ≤ (C.take k).sum ∧ (C.take k).sum ≤ 1000000000000 :=
  cntOk_sum (fun j hj => cntOk_at (profileOk_iff.1 h).2.2 j hj) k hk
def addC (C : List Int) (m : Nat) (k : Nat) (n : Int) : List Int := (C ++ List.replicate (m - C.length) 0).set k ((C ++ List.replicate (m - C.length) 0).getD k 0 + n)
def addStack (N : List Node) (C : List Int) (L : List Frame) (n : Int) : (List Node × List Int) × Bool :=
  if profileOk N C = true ∧ 0 ≤ n ∧ n ≤ 1000000000000 ∧ 0 ≤ (intern N L).2 ∧ profileOk (intern N L).1 (addC C (intern N L).1.length (intern N L).2.toNat n) = true
  then (((intern N L).1, addC C (intern N L).1.length (intern N L).2.toNat n), true) else ((N, C), false)

end Go.Proofs.YtahcfcimfcjhhaaGreatDoor

namespace Go.Proofs.YtahcfcimfcjhhaaGreatDoor
open Go.Vc
attribute [local go_sem] St.runR St.runW St.stepV offV St.step St.stepU St.stepG mkCond guardB St.prK St.pr St.prLen St.eff St.callE St.callD St.callF St.callL aI aB aS aR aC St.isM St.argL Ctr.pure Ctr.lend Ctr.move Ctr.isL Ctr.wri pur len lentBy St.lentV St.lent1 nthS argsR restOf obsR pairs swapL unObs backL St.resL erL SV.ren1 SV.up SV.up2 Ob.up St.fzL cellIds partIds St.intoRow SV.ownId St.fz SV.fz1 St.prep St.mvL St.mv SV.re1 rnOk St.prEq vals eqCells scEq Value.kd St.prStr St.prCut cutR St.bnd St.prMin St.bld isShift outL retL outJ oR oC St.ev St.get St.put St.new St.kill SV.kill SV.kill1 Ob.kill St.app St.wrt St.rowsOf St.res St.killL lk er argsL SV.strip SV.need SV.share SV.share1 SV.owns SV.owns1 SV.owns2 SV.good SV.good1 SV.rok SV.rok1 SV.rok2 SV.isV SV.isV2 nodupN SV.cells SV.one SV.pur Ob.pb partsIn rowsIn splice cellsAt dstOk scal2 scal1 thenK blockK retK outK outs okC okL okA okT nilC nilL nilA nilT keepC keepL keepA keepT St.runG St.dltK St.least St.clean St.final St.hide offK badS badO SV.refs SV.leaf SV.leaf2 Ob.refs dlOk fpAt Go.Vc.cover tups SV.ofAgg St.out outC subL St.has rng wr Value.oneCell' Option.isSome_some Option.isSome_none List.nil_append Bool.false_eq_true List.map_cons List.map_nil List.all_cons List.all_nil List.length_cons List.length_nil List.drop_zero List.drop_succ_cons List.take_succ_cons List.take_zero List.drop_nil List.take_nil List.getElem?_cons_zero List.getElem?_cons_succ List.getElem?_nil List.cons_append List.nil_append List.append_nil List.append_assoc List.flatMap_cons List.flatMap_nil List.contains_cons List.contains_nil List.set_cons_zero List.set_cons_succ List.getElem?_toArray Option.getD_some Option.getD_none Option.map_some Option.map_none Option.bind_some Option.some.injEq Prod.mk.injEq if_true if_false true_and and_true and_self and_false false_and Bool.and_false Bool.false_and Bool.or_true Bool.true_or Bool.or_false Bool.false_or ne_eq not_true_eq_false not_false_eq_true decide_true decide_false List.mem_cons List.not_mem_nil List.filter_cons List.filter_nil List.any_cons List.any_nil List.isEmpty_nil List.isEmpty_cons Option.getD_none or_false false_or true_or or_true forall_eq_or_imp forall_eq reduceCtorEq exists_eq exists_eq' exists_eq_left' exists_eq_left exists_eq_right exists_eq_right' imp_self implies_true Bool.and_true Bool.true_and Bool.and_self beq_self_eq_true List.replicate_succ List.replicate_zero forall_const false_implies pickB_or pickB_and beqT beqF Int.toNat_natCast List.length_map List.length_replicate ge_iff_le gt_iff_lt decide_eq_true_eq decide_eq_false_iff_not Bool.and_eq_true Bool.or_eq_true Bool.not_eq_true' Bool.not_eq_false' condG List.toList_toArray Bool.or_eq_false_iff Bool.and_eq_false_iff Int.not_lt Int.not_le beq_iff_eq beq_eq_false_iff_ne bne_iff_ne bne_eq_false_iff_eq ne_eq Bool.not_true Bool.not_false exists_and_left
section
open Go.Vc
set_option linter.unusedSimpArgs false
set_option linter.unusedVariables false
set_option maxHeartbeats 1000000
attribute [local irreducible] Go.Vc.WP
attribute [local go_sem] cx0_t cx0_c

structure Entry where
  stack : ByteArray
  count : Int
deriving DecidableEq
def encEntry (x : Entry) : List SV := [.v (.string x.stack), .v (.int .i64 x.count)]
def oneEntry : List SV → Entry
  | [.v (.string stack), .v (.int _ count)] => ⟨stack, count⟩
  | _ => ⟨⟨#[]⟩, 0⟩
def decEntry (rows : List (List SV)) : List Entry := rows.map oneEntry
theorem oneEntry_enc (x : Entry) : oneEntry (encEntry x) = x := rfl
theorem decEntry_enc (L : List Entry) : decEntry (L.map encEntry) = L := by
  unfold decEntry
  rw [List.map_map]
  exact List.map_id'' oneEntry_enc L
theorem isV_Entry {e s : Nat} (L : List Entry) : (Ob.sl e s (L.map encEntry)).isV ↔ True := iff_true_intro (by
  intro row hr c hc
  obtain ⟨n, _, rfl⟩ := List.mem_map.1 hr
  simp only [encEntry, List.mem_cons, List.not_mem_nil, or_false] at hc
  rcases hc with rfl | rfl <;> exact ⟨_, rfl⟩)
def zerEntry : List SV := [.v (.string ⟨#[]⟩), .v (.int .i64 0)]

def keqEntry : Ctr := pur (fun args => (oneEntry (aC args 0), oneEntry (aC args 1))) (fun x => [.agg (encEntry x.1), .agg (encEntry x.2)]) (fun _ => True) (fun _ x => .v (.bool (decide (x.1 = x.2)))) (fun _ _ => [])
end
end Go.Proofs.YtahcfcimfcjhhaaGreatDoor
/-
  DERIVED. Plain lists: a profile's entries, and a profile of entries.
-/
namespace Go.Proofs.YtahcfcimfcjhhaaGreatDoor
set_option linter.unusedVariables false
open Go.Pl

def ltE (a b : Entry) : Bool := ltS a.stack b.stack
theorem ltE_strict : Strict ltE := ⟨fun a => ltS_irrefl _, fun a b c h1 h2 => ltS_trans h1 h2⟩
theorem ltE_ne {a b : Entry} (h : a.stack ≠ b.stack) : ltE a b = true ∨ ltE b a = true := by
  cases h1 : ltE a b with
  | true => exact .inl rfl
  | false => exact .inr (ltS_gt h1 h)
/-- entry k, if it counts -/
def entAt (N : List Node) (C : List Int) (k : Nat) : Option Entry := if C.getD k 0 = 0 then none else some ⟨fmtF (stackAt N k), C.getD k 0⟩
def rawE (N : List Node) (C : List Int) (n : Nat) : List Entry := (List.range n).filterMap (entAt N C)
theorem rawE_zero (N : List Node) (C : List Int) : rawE N C 0 = [] := rfl
theorem rawE_succ (N : List Node) (C : List Int) (n : Nat) : rawE N C (n + 1) = rawE N C n ++ (entAt N C n).toList := by
  unfold rawE
  rw [List.range_succ, List.filterMap_append, List.filterMap_cons, List.filterMap_nil]
  cases entAt N C n <;> rfl
theorem rawE_len (N : List Node) (C : List Int) (n : Nat) : (rawE N C n).length ≤ n := by
  have := List.length_filterMap_le (entAt N C) (List.range n)
  simpa [rawE] using this
theorem rawE_mem {N : List Node} {C : List Int} {n : Nat} {x : Entry} (h : x ∈ rawE N C n) : ∃ k, k < n ∧ C.getD k 0 ≠ 0 ∧ x = ⟨fmtF (stackAt N k), C.getD k 0⟩ := by
  unfold rawE at h
  obtain ⟨k, hk, he⟩ := List.mem_filterMap.1 h
  unfold entAt at he
  split at he
  · cases he
  · rename_i h0
    exact ⟨k, by simpa using hk, h0, (Option.some.inj he).symm⟩
/-- no two entries have one stack -/
theorem rawE_apart {N : List Node} (hok : stacksOk N = true) (C : List Int) : ∀ n, n ≤ N.length → (rawE N C n).Pairwise fun a b => a.stack ≠ b.stack
  | 0, _ => List.Pairwise.nil
  | n + 1, hn => by
    rw [rawE_succ, List.pairwise_append]
    refine ⟨rawE_apart hok C n (by omega), ?_, fun a ha b hb => ?_⟩
    · cases entAt N C n <;> simp
    · obtain ⟨k, hk, _, rfl⟩ := rawE_mem ha
      have : b = ⟨fmtF (stackAt N n), C.getD n 0⟩ := by
        unfold entAt at hb
        split at hb
        · simp at hb
        · simpa using hb
      subst this
      intro e
      have h1 := fmtF_inj (stackAt_ok N k) (stackAt_ok N n) (stackAt_ne hok k (by omega)) (stackAt_ne hok n (by omega)) e
      have := stackAt_inj hok (by omega) (by omega) h1
      omega
theorem rawE_pair {N : List Node} (hok : stacksOk N = true) (C : List Int) (n : Nat) (hn : n ≤ N.length) : (rawE N C n).Pairwise fun a b => ltE a b = true ∨ ltE b a = true :=
  (rawE_apart hok C n hn).imp fun h => ltE_ne h
def entriesOf (N : List Node) (C : List Int) : List Entry := if profileOk N C = true then insAll ltE (rawE N C C.length) else []
theorem entriesOf_len (N : List Node) (C : List Int) : (entriesOf N C).length ≤ C.length := by
  unfold entriesOf
  split
  · rw [insAll_len]; exact rawE_len N C C.length
  · simp
/-- what an entry of a profile is -/
theorem entriesOf_mem {N : List Node} {C : List Int} {x : Entry} (h : x ∈ entriesOf N C) : profileOk N C = true ∧ ∃ k : Nat, k < N.length ∧ x.stack = fmtF (stackAt N k) ∧ C[k]? = some x.count ∧ 0 < x.count ∧ x.count ≤ 1000000000000 := by
  unfold entriesOf at h
  split at h
  · rename_i hp
    have hp' := profileOk_iff.1 hp
    obtain ⟨k, hk, h0, rfl⟩ := rawE_mem (insAll_mem.1 h)
    have hg : C.getD k 0 = C[k] := by rw [List.getD_eq_getElem?_getD, List.getElem?_eq_getElem hk]; rfl
    have hc := cntOk_at hp'.2.2 k hk
    have hs := profileOk_sum hp k (by omega)
    simp only [hg] at h0 ⊢
    exact ⟨hp, k, by omega, rfl, List.getElem?_eq_getElem hk, by omega, by omega⟩
  · cases h
theorem entriesOf_size {N : List Node} {C : List Int} {x : Entry} (h : x ∈ entriesOf N C) : x.stack.size ≤ 12 * N.length := by
  obtain ⟨_, k, _, hs, _⟩ := entriesOf_mem h
  have h1 := fmtF_size (stackAt N k)
  have h2 := stackAt_len N k
  rw [hs]
  have := Nat.mul_le_mul_left 12 h2
  omega
/-- .. is read again -/
theorem entriesOf_parse {N : List Node} {C : List Int} {x : Entry} (h : x ∈ entriesOf N C) : ∃ k : Nat, k < N.length ∧ x.stack = fmtF (stackAt N k) ∧ parseF x.stack = some (stackAt N k) ∧ stackAt N k ≠ [] := by
  obtain ⟨hp, k, hk, hs, _⟩ := entriesOf_mem h
  have hok := (profileOk_iff.1 hp).1
  refine ⟨k, hk, hs, ?_, stackAt_ne hok k hk⟩
  rw [hs]
  exact parseF_fmtF (stackAt_ok N k) (stackAt_ne hok k hk)

def profGo : List Entry → List Node × List Int → Option (List Node × List Int)
  | [], s => some s
  | e :: l, s => match parseF e.stack with
    | some f => if (addStack s.1 s.2 f e.count).2 = true then profGo l (addStack s.1 s.2 f e.count).1 else none
    | none => none
def profileOf (L : List Entry) : Option (List Node × List Int) := profGo L ([], [])
theorem profGo_no {e : Entry} {l : List Entry} {s : List Node × List Int} (h : parseF e.stack = none) : profGo (e :: l) s = none := by rw [profGo, h]
theorem profGo_bad {e : Entry} {l : List Entry} {s : List Node × List Int} {f : List Frame} (h : parseF e.stack = some f) (hb : (addStack s.1 s.2 f e.count).2 = false) : profGo (e :: l) s = none := by
  rw [profGo, h]; simp only; rw [hb]; rfl
theorem profGo_ok {e : Entry} {l : List Entry} {s : List Node × List Int} {f : List Frame} (h : parseF e.stack = some f) (hb : (addStack s.1 s.2 f e.count).2 = true) : profGo (e :: l) s = profGo l (addStack s.1 s.2 f e.count).1 := by
  rw [profGo, h]; simp only; rw [if_pos hb]
theorem addStack_ok {N : List Node} {C : List Int} {L : List Frame} {n : Int} (h : (addStack N C L n).2 = true) : profileOk (addStack N C L n).1.1 (addStack N C L n).1.2 = true := by
  unfold addStack at h ⊢
  split
  · rename_i hh; exact hh.2.2.2.2
  · rename_i hh; rw [if_neg hh] at h; cases h
theorem addStack_no {N : List Node} {C : List Int} {L : List Frame} {n : Int} (h : (addStack N C L n).2 = false) : (addStack N C L n).1 = (N, C) := by
  unfold addStack at h ⊢
  split
  · rename_i hh; rw [if_pos hh] at h; cases h
  · rfl
theorem addC_len (C : List Int) (m k : Nat) (n : Int) : (addC C m k n).length = max C.length m := by
  simp [addC]; omega
theorem addStack_len (N : List Node) (C : List Int) (L : List Frame) (n : Int) : (addStack N C L n).1.1.length ≤ N.length + L.length ∧ (addStack N C L n).1.2.length ≤ max C.length (N.length + L.length) := by
  have := intern_len N L
  unfold addStack
  split
  · simp only [addC_len]; omega
  · simp only; omega
theorem addStack_names {B : Nat} {N : List Node} {C : List Int} {L : List Frame} {n : Int} (h : ∀ x ∈ N, x.name.size ≤ B) (hL : ∀ f ∈ L, f.name.size ≤ B) : ∀ x ∈ (addStack N C L n).1.1, x.name.size ≤ B := by
  unfold addStack
  split
  · exact intern_names h hL
  · exact h
end Go.Proofs.YtahcfcimfcjhhaaGreatDoor

/-
  DERIVED. Plain lists: which entries of a profile are kept, and as what; what the totals are.
-/
namespace Go.Proofs.YtahcfcimfcjhhaaGreatDoor
set_option linter.unusedVariables false
open Go.Pl

def hasName (s : ByteArray) (f : Frame) : Bool := decide (f.name = s)
def idxF (s : ByteArray) (L : List Frame) : Int := firstIdx (hasName s) L
def frsE (e : Entry) : List Frame := (parseF e.stack).getD []
def mapG (g : List Frame → List Frame) (e : Entry) : Option Entry := if g (frsE e) = [] then none else some ⟨fmtF (g (frsE e)), e.count⟩
def keepS (s : ByteArray) (b : Bool) (e : Entry) : Bool := decide (0 ≤ idxF s (frsE e)) == b
def pick (s : ByteArray) (b : Bool) (L : List Frame) : List Frame := if (decide (0 ≤ idxF s L) == b) = true then L else []
def mapP (g : List Frame → List Frame) (N : List Node) (C : List Int) : List Node × List Int := (profileOf ((entriesOf N C).filterMap (mapG g))).getD ([], [])
theorem pick_len (s : ByteArray) (b : Bool) (L : List Frame) : (pick s b L).length ≤ L.length := by
  unfold pick
  split <;> simp
theorem ent_frs {N : List Node} {C : List Int} {e : Entry} (h : e ∈ entriesOf N C) : frsE e ≠ [] ∧ fmtF (frsE e) = e.stack ∧ (frsE e).all frOk = true ∧ (frsE e).length ≤ N.length ∧ parseF e.stack = some (frsE e) := by
  obtain ⟨k, hk, h1, h2, h3⟩ := entriesOf_parse h
  have : frsE e = stackAt N k := by unfold frsE; rw [h2]; rfl
  rw [this]; exact ⟨h3, h1.symm, stackAt_ok N k, stackAt_len N k, h2⟩
theorem fm_filter {g : List Frame → List Frame} {p : Entry → Bool} : ∀ {L : List Entry}, (∀ e ∈ L, mapG g e = if p e = true then some e else none) → L.filterMap (mapG g) = L.filter p
  | [], _ => rfl
  | e :: L, h => by
    have ih := fm_filter (L := L) fun x hx => h x (List.mem_cons_of_mem _ hx)
    rw [List.filterMap_cons, h e List.mem_cons_self, List.filter_cons, ih]
    cases p e <;> rfl
theorem pick_mapG {N : List Node} {C : List Int} {s : ByteArray} {b : Bool} {e : Entry} (h : e ∈ entriesOf N C) : mapG (pick s b) e = if keepS s b e = true then some e else none := by
  obtain ⟨h1, h2, _⟩ := ent_frs h
  unfold mapG pick keepS
  by_cases hk : (decide (0 ≤ idxF s (frsE e)) == b) = true
  · simp only [if_pos hk]
    rw [if_neg h1, h2]
  · simp only [if_neg hk]
    first | done | rfl | simp
theorem pick_list (N : List Node) (C : List Int) (s : ByteArray) (b : Bool) : (entriesOf N C).filterMap (mapG (pick s b)) = (entriesOf N C).filter (keepS s b) :=
  fm_filter fun e he => pick_mapG he
theorem fm_succ {α β : Type} (g : α → Option β) {L : List α} {k : Nat} (h : k < L.length) : (L.take (k + 1)).filterMap g = (L.take k).filterMap g ++ (g L[k]).toList := by
  rw [List.take_succ_eq_append_getElem h, List.filterMap_append]
  congr 1
  all_goals (cases hg : g L[k] <;> simp [hg])
theorem fl_succ {α : Type} (p : α → Bool) {L : List α} {k : Nat} (h : k < L.length) : (L.take (k + 1)).filter p = (L.take k).filter p ++ (if p L[k] = true then [L[k]] else []) := by
  rw [List.take_succ_eq_append_getElem h, List.filter_append]
  congr 1
  all_goals (cases hg : p L[k] <;> simp [hg])
theorem mp_succ {α β : Type} (f : α → β) {L : List α} {k : Nat} (h : k < L.length) : (L.take (k + 1)).map f = (L.take k).map f ++ [f L[k]] := by
  rw [List.take_succ_eq_append_getElem h, List.map_append]; rfl

/-! ## interning keeps what is right -/
theorem firstIdx_neg {α : Type} {p : α → Bool} {L : List α} (h : firstIdx p L < 0) : ∀ x ∈ L, p x = false := by
  unfold firstIdx at h
  split at h
  · omega
  · rename_i hn
    intro x hx
    have := List.findIdx?_eq_none_iff.1 hn x hx
    simpa using this
theorem stacksOk_snoc {N : List Node} {p : Int} {f : Frame} (h : stacksOk N = true) (hp : -1 ≤ p) (hq : p < N.length) (hf : frOk f = true) (hc : child N p f < 0) : stacksOk (N ++ [mkNode p f]) = true := by
  refine stacksOk_all fun k hk => ?_
  simp only [List.length_append, List.length_cons, List.length_nil] at hk
  rcases Nat.lt_or_ge k N.length with h1 | h1
  · have := stacksOk_at h k h1
    unfold stNode at this ⊢
    rw [List.getElem_append_left h1, List.take_append_of_le_length (by omega)]
    exact this
  · obtain rfl : k = N.length := by omega
    rw [List.getElem_append_right (by omega)]
    simp only [Nat.sub_self, List.getElem_cons_zero]
    refine stNode_iff.2 ⟨hp, by simp only [mkNode]; omega, hf, fun y hy he => ?_⟩
    rw [List.take_append_of_le_length (by omega), List.take_length] at hy
    have := firstIdx_neg hc y hy
    rw [he] at this
    simp [hitNode, mkNode, nodeFr] at this
theorem intGo_ok : ∀ (L : List Frame) (s : List Node × Int), stacksOk s.1 = true → L.all frOk = true → -1 ≤ s.2 → s.2 < s.1.length → stacksOk (intGo L s).1 = true
  | [], s, h, _, _, _ => h
  | f :: L, s, h, ha, h1, h2 => by
    simp only [List.all_cons, Bool.and_eq_true] at ha
    have hb := child_bound s.1 s.2 f
    rw [intGo]
    split
    · rename_i hc
      exact intGo_ok L _ (stacksOk_snoc h h1 h2 ha.1 hc) ha.2 (by simp only; omega) (by simp only [List.length_append, List.length_cons, List.length_nil]; omega)
    · exact intGo_ok L _ h ha.2 hb.1 hb.2
theorem intern_ok {N : List Node} {L : List Frame} (h : stacksOk N = true) : stacksOk (intern N L).1 = true := by
  unfold intern
  split
  · rename_i hh
    exact intGo_ok L (N, -1) h hh.2.2 (by simp only; omega) (by simp only; omega)
  · exact h
theorem intern_pos {N : List Node} {L : List Frame} (h : stacksOk N = true) (hL : L ≠ []) (ha : L.all frOk = true) : 0 ≤ (intern N L).2 ∧ (intern N L).2 < (intern N L).1.length := by
  unfold intern
  rw [if_pos ⟨h, hL, ha⟩]
  exact intGo_at L (N, -1) fun e => absurd e hL

/-! ## sums -/
theorem sum_set : ∀ {C : List Int} {k : Nat} (n : Int), k < C.length → (C.set k (C.getD k 0 + n)).sum = C.sum + n
  | x :: C, 0, n, _ => by simp; omega
  | x :: C, k + 1, n, h => by
    have := sum_set (C := C) (k := k) n (by simpa using h)
    simp only [List.set_cons_succ, List.sum_cons, List.getD_cons_succ]
    rw [this]; omega
theorem sum_nonneg : ∀ {C : List Int}, (∀ x ∈ C, 0 ≤ x) → 0 ≤ C.sum
  | [], _ => by simp
  | x :: C, h => by
    have := sum_nonneg (C := C) fun y hy => h y (List.mem_cons_of_mem _ hy)
    have := h x List.mem_cons_self
    simp only [List.sum_cons]; omega
theorem sum_rep (n : Nat) : (List.replicate n (0 : Int)).sum = 0 := by
  induction n with
  | zero => rfl
  | succ n ih => rw [List.replicate_succ, List.sum_cons, ih]; rfl
theorem cntOk_total {C : List Int} (h0 : ∀ x ∈ C, 0 ≤ x) (ht : C.sum ≤ 1000000000000) : cntOk C = true := by
  unfold cntOk
  refine decide_eq_true fun k hk => ⟨h0 _ (List.getElem_mem hk), ?_⟩
  have h1 := take_sum C k hk
  have h2 : C.sum = (C.take (k + 1)).sum + (C.drop (k + 1)).sum := by rw [← List.sum_append, List.take_append_drop]
  have h3 : 0 ≤ (C.drop (k + 1)).sum := sum_nonneg fun x hx => h0 x (List.mem_of_mem_drop hx)
  omega
theorem cntOk_nonneg {C : List Int} (h : cntOk C = true) : ∀ x ∈ C, 0 ≤ x := fun x hx => by
  obtain ⟨k, hk, rfl⟩ := List.mem_iff_getElem.1 hx
  exact (cntOk_at h k hk).1
theorem addC_sum {C : List Int} {m k : Nat} (n : Int) (hk : k < max C.length m) : (addC C m k n).sum = C.sum + n := by
  unfold addC
  rw [sum_set n (by simp only [List.length_append, List.length_replicate]; omega), List.sum_append, sum_rep]; omega
theorem mem_set' {α : Type} {L : List α} {k : Nat} {x y : α} (h : y ∈ L.set k x) : y = x ∨ y ∈ L := by
  rcases List.mem_or_eq_of_mem_set h with h | h
  · exact .inr h
  · exact .inl h
theorem addC_nonneg {C : List Int} {m k : Nat} {n : Int} (h0 : ∀ x ∈ C, 0 ≤ x) (hn : 0 ≤ n) : ∀ x ∈ addC C m k n, 0 ≤ x := by
  have hD : ∀ x ∈ C ++ List.replicate (m - C.length) (0 : Int), 0 ≤ x := fun x hx => by
    rcases List.mem_append.1 hx with h | h
    · exact h0 x h
    · rw [List.mem_replicate] at h; omega
  intro x hx
  unfold addC at hx
  rcases mem_set' hx with h | h
  · rw [h]
    have : 0 ≤ (C ++ List.replicate (m - C.length) (0 : Int)).getD k 0 := by
      rw [List.getD_eq_getElem?_getD]
      cases hg : (C ++ List.replicate (m - C.length) (0 : Int))[k]? with
      | none => simp
      | some y => exact hD y (List.mem_of_getElem? hg)
    omega
  · exact hD x h
theorem addStack_total {N : List Node} {C : List Int} {L : List Frame} {n : Int} (hp : profileOk N C = true) (hL : L ≠ []) (ha : L.all frOk = true) (h0 : 0 ≤ n) (hs : C.sum + n ≤ 1000000000000) :
    (addStack N C L n).2 = true ∧ (addStack N C L n).1.2.sum = C.sum + n ∧ profileOk (addStack N C L n).1.1 (addStack N C L n).1.2 = true := by
  obtain ⟨p1, p2, p3⟩ := profileOk_iff.1 hp
  have hn := cntOk_nonneg p3
  have hC0 := sum_nonneg hn
  obtain ⟨i0, i1⟩ := intern_pos (N := N) p1 hL ha
  have il := (intern_len N L).1
  have hk : (intern N L).2.toNat < max C.length (intern N L).1.length := by omega
  have hsum := addC_sum (C := C) (m := (intern N L).1.length) n hk
  have hok : profileOk (intern N L).1 (addC C (intern N L).1.length (intern N L).2.toNat n) = true :=
    profileOk_iff.2 ⟨intern_ok p1, by rw [addC_len]; omega, cntOk_total (addC_nonneg hn h0) (by rw [hsum]; exact hs)⟩
  have hcond : profileOk N C = true ∧ 0 ≤ n ∧ n ≤ 1000000000000 ∧ 0 ≤ (intern N L).2 ∧ profileOk (intern N L).1 (addC C (intern N L).1.length (intern N L).2.toNat n) = true := ⟨hp, h0, by omega, i0, hok⟩
  unfold addStack
  rw [if_pos hcond]
  exact ⟨rfl, hsum, hok⟩
def sumE (L : List Entry) : Int := (L.map (·.count)).sum
theorem profGo_total : ∀ (L : List Entry) (s : List Node × List Int), profileOk s.1 s.2 = true → (∀ e ∈ L, frsE e ≠ [] ∧ (frsE e).all frOk = true ∧ parseF e.stack = some (frsE e) ∧ 0 ≤ e.count) → s.2.sum + sumE L ≤ 1000000000000 →
    ∃ t, profGo L s = some t ∧ profileOk t.1 t.2 = true ∧ t.2.sum = s.2.sum + sumE L
  | [], s, h, _, _ => ⟨s, rfl, h, by simp [sumE]⟩
  | e :: L, s, h, he, hs => by
    obtain ⟨e1, e2, e3, e4⟩ := he e List.mem_cons_self
    have hL : 0 ≤ sumE L := sum_nonneg fun x hx => by
      obtain ⟨y, hy, rfl⟩ := List.mem_map.1 hx
      exact (he y (List.mem_cons_of_mem _ hy)).2.2.2
    have hc : sumE (e :: L) = e.count + sumE L := by simp [sumE]
    obtain ⟨a1, a2, a3⟩ := addStack_total (n := e.count) h e1 e2 e4 (by omega)
    obtain ⟨t, t1, t2, t3⟩ := profGo_total L _ a3 (fun x hx => he x (List.mem_cons_of_mem _ hx)) (by rw [a2]; omega)
    exact ⟨t, by rw [profGo_ok e3 a1]; exact t1, t2, by rw [t3, a2]; omega⟩
theorem nilOk : profileOk [] [] = true := by decide
theorem profileOf_total {L : List Entry} (he : ∀ e ∈ L, frsE e ≠ [] ∧ (frsE e).all frOk = true ∧ parseF e.stack = some (frsE e) ∧ 0 ≤ e.count) (hs : sumE L ≤ 1000000000000) :
    ∃ t, profileOf L = some t ∧ profileOk t.1 t.2 = true ∧ t.2.sum = sumE L := by
  obtain ⟨t, h1, h2, h3⟩ := profGo_total L ([], []) nilOk he (by simpa using hs)
  exact ⟨t, h1, h2, by simpa using h3⟩
theorem perm_sum {L M : List Int} (h : L.Perm M) : L.sum = M.sum := by
  induction h with
  | nil => rfl
  | cons x _ ih => simp only [List.sum_cons, ih]
  | swap x y l => simp only [List.sum_cons]; omega
  | trans _ _ h1 h2 => exact h1.trans h2
theorem rawE_sum (N : List Node) (C : List Int) : ∀ n, n ≤ C.length → sumE (rawE N C n) = (C.take n).sum
  | 0, _ => by simp [rawE_zero, sumE]
  | n + 1, h => by
    have ih := rawE_sum N C n (by omega)
    rw [rawE_succ, take_sum C n h, ← ih]
    have e : C.getD n 0 = C[n] := by rw [List.getD_eq_getElem?_getD, List.getElem?_eq_getElem h]; rfl
    unfold entAt
    rw [e]
    split
    · rename_i h0; simp [sumE, h0]
    · simp [sumE]
theorem sumE_entries (N : List Node) (C : List Int) : sumE (entriesOf N C) = totalOf N C := by
  unfold entriesOf totalOf
  split
  · have h1 : ((insAll ltE (rawE N C C.length)).map (·.count)).Perm ((rawE N C C.length).map (·.count)) := (insAll_perm _).map _
    have h2 := perm_sum h1
    have h3 := rawE_sum N C C.length (Nat.le_refl _)
    rw [List.take_length] at h3
    unfold sumE at h3 ⊢
    rw [h2, h3]
  · rfl
theorem sum_filter_le {p : Entry → Bool} : ∀ {L : List Entry}, (∀ e ∈ L, 0 ≤ e.count) → 0 ≤ sumE (L.filter p) ∧ sumE (L.filter p) ≤ sumE L
  | [], _ => by simp [sumE]
  | e :: L, h => by
    obtain ⟨h1, h2⟩ := sum_filter_le (p := p) (L := L) fun x hx => h x (List.mem_cons_of_mem _ hx)
    have h3 := h e List.mem_cons_self
    have hc : sumE (e :: L) = e.count + sumE L := by simp [sumE]
    rw [List.filter_cons]
    split
    · have hd : sumE (e :: L.filter p) = e.count + sumE (L.filter p) := by simp [sumE]
      omega
    · omega
theorem totalOf_bound (N : List Node) (C : List Int) : 0 ≤ totalOf N C ∧ totalOf N C ≤ 1000000000000 := by
  unfold totalOf
  split
  · rename_i h
    have := profileOk_sum h C.length (Nat.le_refl _)
    rw [List.take_length] at this
    exact this
  · omega
theorem filter_total (N : List Node) (C : List Int) (p : Entry → Bool) : ∃ t, profileOf ((entriesOf N C).filter p) = some t ∧ profileOk t.1 t.2 = true ∧ t.2.sum = sumE ((entriesOf N C).filter p) := by
  have hp : ∀ e ∈ entriesOf N C, 0 ≤ e.count := fun e he => by obtain ⟨_, k, _, _, _, h, _⟩ := entriesOf_mem he; omega
  refine profileOf_total (fun e he => ?_) ?_
  · have hm := (List.mem_filter.1 he).1
    obtain ⟨h1, _, h2, _, h3⟩ := ent_frs hm
    exact ⟨h1, h2, h3, hp e hm⟩
  · have h1 := (sum_filter_le (p := p) hp).2
    rw [sumE_entries] at h1
    have := totalOf_bound N C
    omega
theorem filter_totalOf (N : List Node) (C : List Int) (p : Entry → Bool) : totalOf ((profileOf ((entriesOf N C).filter p)).getD ([], [])).1 ((profileOf ((entriesOf N C).filter p)).getD ([], [])).2 = sumE ((entriesOf N C).filter p) := by
  obtain ⟨t, h1, h2, h3⟩ := filter_total N C p
  rw [h1]
  simp only [Option.getD_some]
  unfold totalOf
  rw [if_pos h2, h3]
/-! ## the first frames -/
def topF (n : Int) (L : List Frame) : List Frame := L.take n.toNat
theorem topF_len (n : Int) (L : List Frame) : (topF n L).length ≤ L.length := by
  unfold topF; rw [List.length_take]; omega
def topE (n : Int) (e : Entry) : Entry := ⟨fmtF (topF n (frsE e)), e.count⟩
theorem top_list (N : List Node) (C : List Int) {n : Int} (hn : 1 ≤ n) : (entriesOf N C).filterMap (mapG (topF n)) = (entriesOf N C).map (topE n) := by
  have : ∀ L : List Entry, (∀ e ∈ L, e ∈ entriesOf N C) → L.filterMap (mapG (topF n)) = L.map (topE n) := by
    intro L
    induction L with
    | nil => intro _; rfl
    | cons e L ih =>
      intro h
      have h1 := (ent_frs (h e List.mem_cons_self)).1
      have h2 : topF n (frsE e) ≠ [] := by
        unfold topF
        cases hf : frsE e with
        | nil => exact absurd hf h1
        | cons a b =>
          obtain ⟨m, hm⟩ : ∃ m, n.toNat = m + 1 := ⟨n.toNat - 1, by omega⟩
          rw [hm, List.take_succ_cons]; simp
      rw [List.filterMap_cons, List.map_cons, ih fun x hx => h x (List.mem_cons_of_mem _ hx)]
      unfold mapG
      rw [if_neg h2]
      rfl
  exact this _ fun _ h => h
/-! ## how large a profile becomes -/
theorem profGo_len {B : Nat} : ∀ (L : List Entry) (s : List Node × List Int) (m : Nat), (∀ e ∈ L, ∀ f, parseF e.stack = some f → f.length ≤ B) → s.1.length ≤ m → s.2.length ≤ m → ∀ t, profGo L s = some t → t.1.length ≤ m + B * L.length ∧ t.2.length ≤ m + B * L.length
  | [], s, m, _, h1, h2, t, ht => by
    rw [profGo] at ht
    cases ht
    simp only [List.length_nil, Nat.mul_zero, Nat.add_zero]
    exact ⟨h1, h2⟩
  | e :: L, s, m, he, h1, h2, t, ht => by
    cases hp : parseF e.stack with
    | none => rw [profGo_no hp] at ht; cases ht
    | some f =>
      cases hb : (addStack s.1 s.2 f e.count).2 with
      | false => rw [profGo_bad hp hb] at ht; cases ht
      | true =>
        rw [profGo_ok hp hb] at ht
        have h3 := he e List.mem_cons_self f hp
        have h4 := addStack_len s.1 s.2 f e.count
        have h5 := profGo_len L _ (m + B) (fun x hx => he x (List.mem_cons_of_mem _ hx)) (by omega) (by omega) t ht
        simp only [List.length_cons, Nat.mul_add, Nat.mul_one]
        omega
end Go.Proofs.YtahcfcimfcjhhaaGreatDoor

/-
  DERIVED. Plain lists: counts by name, as they are summed up in place and as they are kept in order.
-/
namespace Go.Proofs.YtahcfcimfcjhhaaGreatDoor
set_option linter.unusedVariables false
open Go.Pl
instance inhE : Inhabited Entry := ⟨⟨⟨#[]⟩, 0⟩⟩
instance memBA (t : ByteArray) (ns : List ByteArray) : Decidable (t ∈ ns) := decidable_of_iff (∃ x, x ∈ ns ∧ x = t) (by simp)
def isAt (s : ByteArray) (e : Entry) : Bool := decide (e.stack = s)
/-- c more for s: in place, or at the end -/
def bump (L : List Entry) (s : ByteArray) (c : Int) : List Entry :=
  if firstIdx (isAt s) L < 0 then L ++ [⟨s, c⟩] else L.set (firstIdx (isAt s) L).toNat ⟨s, (L.getD (firstIdx (isAt s) L).toNat default).count + c⟩
/-- where s stands or belongs in a list that ascends -/
def posE (L : List Entry) (s : ByteArray) : Nat := (L.takeWhile fun x => ltS x.stack s).length
/-- .. in order -/
def insB (L : List Entry) (s : ByteArray) (c : Int) : List Entry :=
  if (posE L s < L.length ∧ (L.getD (posE L s) default).stack = s) then L.set (posE L s) ⟨s, (L.getD (posE L s) default).count + c⟩ else L.take (posE L s) ++ ⟨s, c⟩ :: L.drop (posE L s)
/-- what a list of counts is as a function -/
structure Rep' (L : List Entry) (f : ByteArray → Option Int) : Prop where
  nd : L.Pairwise fun a b => a.stack ≠ b.stack
  mem : ∀ e : Entry, e ∈ L ↔ f e.stack = some e.count
def updF (f : ByteArray → Option Int) (s : ByteArray) (c : Int) (t : ByteArray) : Option Int := if t = s then some ((f s).getD 0 + c) else f t
theorem Rep'.nodup {L : List Entry} {f : ByteArray → Option Int} (h : Rep' L f) : L.Nodup := h.nd.imp fun hne e => hne (by rw [e])
theorem Rep'.perm {L M : List Entry} {f : ByteArray → Option Int} (h : Rep' L f) (g : Rep' M f) : L.Perm M :=
  (List.perm_ext_iff_of_nodup h.nodup g.nodup).2 fun e => by rw [h.mem, g.mem]
theorem Rep'.nil : Rep' [] (fun _ => none) := ⟨.nil, fun e => by simp⟩
theorem Rep'.none {L : List Entry} {f : ByteArray → Option Int} (h : Rep' L f) {s : ByteArray} (hs : ∀ x ∈ L, x.stack ≠ s) : f s = none := by
  cases hf : f s with
  | none => rfl
  | some n => exact absurd rfl (hs ⟨s, n⟩ ((h.mem _).2 hf))
/-- one is put in, wherever -/
theorem Rep'.put {L A B : List Entry} {f : ByteArray → Option Int} (h : Rep' L f) (hL : L = A ++ B) {s : ByteArray} {c : Int} (hs : ∀ x ∈ L, x.stack ≠ s) : Rep' (A ++ ⟨s, c⟩ :: B) (updF f s c) := by
  have hp : (A ++ ⟨s, c⟩ :: B).Perm (⟨s, c⟩ :: L) := by rw [hL]; exact List.perm_middle
  have hn := h.none hs
  refine ⟨?_, fun e => ?_⟩
  · refine (hp.pairwise_iff (fun {a b} hh => Ne.symm hh)).2 ?_
    exact List.pairwise_cons.2 ⟨fun x hx => Ne.symm (hs x hx), h.nd⟩
  · rw [hp.mem_iff, List.mem_cons, h.mem]
    unfold updF
    by_cases he : e.stack = s
    · rw [if_pos he, he, hn]
      constructor
      · rintro (h1 | h1)
        · rw [h1]; simp
        · cases h1
      · intro h1
        left
        obtain ⟨a, b⟩ := e
        simp only at he
        simp only [Option.getD_none, Int.zero_add, Option.some.injEq] at h1
        rw [he, h1]
    · rw [if_neg he]
      constructor
      · rintro (h1 | h1)
        · exact absurd (by rw [h1]) he
        · exact h1
      · exact .inr
/-- one is counted up -/
theorem Rep'.up {L : List Entry} {f : ByteArray → Option Int} (h : Rep' L f) {k : Nat} (hk : k < L.length) (c : Int) : Rep' (L.set k ⟨L[k].stack, L[k].count + c⟩) (updF f L[k].stack c) := by
  have hat : ∀ i (hi : i < L.length), L[i].stack = L[k].stack → i = k := fun i hi he => by
    rcases Nat.lt_trichotomy i k with h1 | h1 | h1
    · exact absurd he ((List.pairwise_iff_getElem.1 h.nd) i k hi hk h1)
    · exact h1
    · exact absurd he.symm ((List.pairwise_iff_getElem.1 h.nd) k i hk hi h1)
  have hf : f L[k].stack = some L[k].count := (h.mem _).1 (List.getElem_mem hk)
  refine ⟨?_, fun e => ?_⟩
  · rw [List.pairwise_iff_getElem]
    intro i j hi hj hij
    simp only [List.length_set] at hi hj
    have h0 := (List.pairwise_iff_getElem.1 h.nd) i j hi hj hij
    rw [List.getElem_set, List.getElem_set]
    by_cases h1 : k = i
    · subst h1
      rw [if_pos rfl, if_neg (by omega)]; exact h0
    · rw [if_neg h1]
      by_cases h2 : k = j
      · subst h2; rw [if_pos rfl]; exact h0
      · rw [if_neg h2]; exact h0
  · unfold updF
    by_cases he : e.stack = L[k].stack
    · rw [if_pos he, hf]
      constructor
      · intro hm
        obtain ⟨i, hi, hie⟩ := List.mem_iff_getElem.1 hm
        simp only [List.length_set] at hi
        rw [List.getElem_set] at hie
        by_cases h1 : k = i
        · rw [if_pos h1] at hie; rw [← hie]; rfl
        · rw [if_neg h1] at hie
          exact absurd (hat i hi (by rw [hie, he])).symm h1
      · intro h1
        simp only [Option.getD_some, Option.some.injEq] at h1
        have : e = ⟨L[k].stack, L[k].count + c⟩ := by
          obtain ⟨a, b⟩ := e
          simp only at he h1
          rw [he, h1]
        rw [this]
        exact List.mem_iff_getElem.2 ⟨k, by simpa using hk, by simp⟩
    · rw [if_neg he, ← h.mem]
      constructor
      · intro hm
        rcases mem_set' hm with h1 | h1
        · exact absurd (by rw [h1]) he
        · exact h1
      · intro hm
        obtain ⟨i, hi, hie⟩ := List.mem_iff_getElem.1 hm
        have : k ≠ i := fun e1 => by subst e1; exact he (by rw [hie])
        exact List.mem_iff_getElem.2 ⟨i, by simpa using hi, by rw [List.getElem_set, if_neg this]; exact hie⟩
theorem firstIdx_pos {α : Type} {p : α → Bool} {L : List α} (h : ¬ firstIdx p L < 0) : ∃ (k : Nat) (hk : k < L.length), firstIdx p L = k ∧ p L[k] = true := by
  unfold firstIdx at h ⊢
  split at h
  · rename_i i hi
    obtain ⟨h1, h2, _⟩ := List.findIdx?_eq_some_iff_getElem.1 hi
    exact ⟨i, h1, rfl, h2⟩
  · omega
theorem Rep'.bump {L : List Entry} {f : ByteArray → Option Int} (h : Rep' L f) (s : ByteArray) (c : Int) : Rep' (Go.Proofs.YtahcfcimfcjhhaaGreatDoor.bump L s c) (updF f s c) := by
  unfold Go.Proofs.YtahcfcimfcjhhaaGreatDoor.bump
  split
  · rename_i hn
    have := h.put (A := L) (B := []) (by simp) (s := s) (c := c) (fun x hx he => by
      have := firstIdx_neg hn x hx
      simp [isAt, he] at this)
    exact this
  · rename_i hn
    obtain ⟨k, hk, h1, h2⟩ := firstIdx_pos hn
    have hs : L[k].stack = s := by simpa [isAt] using h2
    rw [h1, Int.toNat_natCast, List.getD_eq_getElem?_getD, List.getElem?_eq_getElem hk, Option.getD_some]
    have := h.up hk c
    rw [hs] at this
    exact this
theorem posE_le (L : List Entry) (s : ByteArray) : posE L s ≤ L.length := by
  unfold posE; exact (List.takeWhile_sublist _).length_le
theorem posE_lt {L : List Entry} {s : ByteArray} {i : Nat} (hi : i < L.length) (h : i < posE L s) : ltS L[i].stack s = true := by
  have h1 : L[i] ∈ L.takeWhile (fun x => ltS x.stack s) := by
    have h2 := List.takeWhile_prefix (l := L) (fun x => ltS x.stack s)
    have h3 : (L.takeWhile (fun x => ltS x.stack s))[i]'h = L[i] := h2.getElem h
    rw [← h3]; exact List.getElem_mem _
  have := (mem_takeWhile' h1).1
  exact this
theorem posE_ge {L : List Entry} {s : ByteArray} (h : posE L s < L.length) : ltS L[posE L s].stack s = false := by
  have h1 : L.dropWhile (fun x => ltS x.stack s) = L.drop (posE L s) := by
    have h2 := List.takeWhile_append_dropWhile (p := fun x : Entry => ltS x.stack s) (l := L)
    have h3 : L.drop (posE L s) = (L.takeWhile (fun x => ltS x.stack s) ++ L.dropWhile (fun x => ltS x.stack s)).drop (posE L s) := by rw [h2]
    rw [h3]; unfold posE; rw [List.drop_left]
  rw [List.drop_eq_getElem_cons h] at h1
  have h4 : L.dropWhile (fun x => ltS x.stack s) ≠ [] := by rw [h1]; exact List.cons_ne_nil _ _
  have h5 := List.head_dropWhile_not (fun x : Entry => ltS x.stack s) h4
  have h6 : (L.dropWhile (fun x => ltS x.stack s)).head h4 = L[posE L s] := by simp only [h1, List.head_cons]
  rw [h6] at h5
  simpa using h5
theorem posE_eq {L : List Entry} {s : ByteArray} {n : Nat} (hn : n ≤ L.length) (h1 : ∀ j (hj : j < L.length), j < n → ltS L[j].stack s = true) (h2 : ∀ h : n < L.length, ltS L[n].stack s = false) : posE L s = n := by
  rcases Nat.lt_trichotomy (posE L s) n with h | h | h
  · have h3 := posE_ge (L := L) (s := s) (by omega)
    rw [h1 _ (by omega) h] at h3; cases h3
  · exact h
  · have := posE_le L s
    have h3 := posE_lt (L := L) (s := s) (i := n) (by omega) h
    rw [h2 (by omega)] at h3; cases h3
theorem Rep'.insB {L : List Entry} {f : ByteArray → Option Int} (h : Rep' L f) (ha : Asc ltE L) (s : ByteArray) (c : Int) : Rep' (Go.Proofs.YtahcfcimfcjhhaaGreatDoor.insB L s c) (updF f s c) ∧ Asc ltE (Go.Proofs.YtahcfcimfcjhhaaGreatDoor.insB L s c) := by
  have hle := posE_le L s
  unfold Go.Proofs.YtahcfcimfcjhhaaGreatDoor.insB
  split
  · rename_i hh
    obtain ⟨hk, hs⟩ := hh
    rw [List.getD_eq_getElem?_getD, List.getElem?_eq_getElem hk, Option.getD_some] at hs ⊢
    have h1 := h.up hk c
    rw [hs] at h1
    refine ⟨h1, ?_⟩
    unfold Asc at ha ⊢
    rw [List.pairwise_iff_getElem] at ha ⊢
    intro i j hi hj hij
    simp only [List.length_set] at hi hj
    have h0 := ha i j hi hj hij
    have key : ∀ (q : Nat) (hq : q < L.length), ((L.set (posE L s) ⟨s, L[posE L s].count + c⟩)[q]'(by simpa using hq)).stack = L[q].stack := fun q hq => by
      rw [List.getElem_set]
      split
      · rename_i e; subst e; exact hs.symm
      · rfl
    unfold ltE at h0 ⊢
    rw [key i hi, key j hj]; exact h0
  · rename_i hh
    have hne : ∀ x ∈ L, x.stack ≠ s := fun x hx he => by
      obtain ⟨i, hi, rfl⟩ := List.mem_iff_getElem.1 hx
      rcases Nat.lt_or_ge i (posE L s) with h1 | h1
      · exact ltS_ne (posE_lt hi h1) he
      · rcases Nat.lt_or_ge (posE L s) i with h2 | h2
        · have h3 := posE_ge (L := L) (s := s) (by omega)
          unfold Asc at ha
          have h4 := (List.pairwise_iff_getElem.1 ha) (posE L s) i (by omega) hi h2
          unfold ltE at h4
          rw [he] at h4
          rw [h3] at h4; cases h4
        · obtain rfl : i = posE L s := by omega
          exact hh ⟨hi, by rw [List.getD_eq_getElem?_getD, List.getElem?_eq_getElem hi]; exact he⟩
    refine ⟨h.put (List.take_append_drop _ _).symm hne, ?_⟩
    have hins : ins ltE ⟨s, c⟩ L = L.take (posE L s) ++ ⟨s, c⟩ :: L.drop (posE L s) := by
      unfold ins posE
      have h2 := List.takeWhile_append_dropWhile (p := fun y : Entry => ltS y.stack s) (l := L)
      have e1 : L.take (L.takeWhile fun x => ltS x.stack s).length = L.takeWhile fun x => ltS x.stack s := by
        have : L.take (L.takeWhile fun x => ltS x.stack s).length = (L.takeWhile (fun x => ltS x.stack s) ++ L.dropWhile (fun x => ltS x.stack s)).take (L.takeWhile fun x => ltS x.stack s).length := by rw [h2]
        rw [this, List.take_left]
      have e2 : L.drop (L.takeWhile fun x => ltS x.stack s).length = L.dropWhile fun x => ltS x.stack s := by
        have : L.drop (L.takeWhile fun x => ltS x.stack s).length = (L.takeWhile (fun x => ltS x.stack s) ++ L.dropWhile (fun x => ltS x.stack s)).drop (L.takeWhile fun x => ltS x.stack s).length := by rw [h2]
        rw [this, List.drop_left]
      rw [e1, e2]
      rfl
    rw [← hins]
    exact ins_asc ltE_strict ha fun y hy => ltE_ne (hne y hy)
/-! ## the names beside a name -/
def namesE (e : Entry) : List ByteArray := (frsE e).map (·.name)
def nearK (s : ByteArray) (d : Int) (ns : List ByteArray) : Nat → List ByteArray
  | 0 => []
  | k + 1 => if ns.getD k ⟨#[]⟩ = s ∧ 0 ≤ (k : Int) + d ∧ (k : Int) + d < ns.length ∧ ns.getD ((k : Int) + d).toNat ⟨#[]⟩ ∉ nearK s d ns k then nearK s d ns k ++ [ns.getD ((k : Int) + d).toNat ⟨#[]⟩] else nearK s d ns k
theorem nearK_len (s : ByteArray) (d : Int) (ns : List ByteArray) : ∀ k, (nearK s d ns k).length ≤ k
  | 0 => by simp [nearK]
  | k + 1 => by
    have := nearK_len s d ns k
    rw [nearK]
    split
    · simp only [List.length_append, List.length_cons, List.length_nil]; omega
    · omega
def nearE (s : ByteArray) (d : Int) (e : Entry) : List ByteArray := nearK s d (namesE e) (namesE e).length
/-- the names of one entry, each counted -/
def addI (c : Int) (ns : List ByteArray) (L : List Entry) : List Entry := ns.foldl (fun L s => bump L s c) L
def addO (c : Int) (ns : List ByteArray) (L : List Entry) : List Entry := ns.foldl (fun L s => insB L s c) L
def nbI (s : ByteArray) (d : Int) (E : List Entry) : List Entry := E.foldl (fun L e => addI e.count (nearE s d e) L) []
def nbO (s : ByteArray) (d : Int) (E : List Entry) : List Entry := E.foldl (fun L e => addO e.count (nearE s d e) L) []
def addF' (c : Int) (ns : List ByteArray) (f : ByteArray → Option Int) : ByteArray → Option Int := ns.foldl (fun f s => updF f s c) f
def nbF (s : ByteArray) (d : Int) (E : List Entry) : ByteArray → Option Int := E.foldl (fun f e => addF' e.count (nearE s d e) f) (fun _ => none)
theorem addI_rep (c : Int) : ∀ (ns : List ByteArray) {L : List Entry} {f : ByteArray → Option Int}, Rep' L f → Rep' (addI c ns L) (addF' c ns f)
  | [], L, f, h => h
  | s :: ns, L, f, h => addI_rep c ns (h.bump s c)
theorem addO_rep (c : Int) : ∀ (ns : List ByteArray) {L : List Entry} {f : ByteArray → Option Int}, Rep' L f → Asc ltE L → Rep' (addO c ns L) (addF' c ns f) ∧ Asc ltE (addO c ns L)
  | [], L, f, h, h2 => ⟨h, h2⟩
  | s :: ns, L, f, h, h2 => addO_rep c ns (h.insB h2 s c).1 (h.insB h2 s c).2
theorem nbI_aux (s : ByteArray) (d : Int) : ∀ (E : List Entry) {L : List Entry} {f : ByteArray → Option Int}, Rep' L f → Rep' (E.foldl (fun L e => addI e.count (nearE s d e) L) L) (E.foldl (fun f e => addF' e.count (nearE s d e) f) f)
  | [], L, f, h => h
  | e :: E, L, f, h => nbI_aux s d E (addI_rep e.count (nearE s d e) h)
theorem nbO_aux (s : ByteArray) (d : Int) : ∀ (E : List Entry) {L : List Entry} {f : ByteArray → Option Int}, Rep' L f → Asc ltE L → Rep' (E.foldl (fun L e => addO e.count (nearE s d e) L) L) (E.foldl (fun f e => addF' e.count (nearE s d e) f) f) ∧ Asc ltE (E.foldl (fun L e => addO e.count (nearE s d e) L) L)
  | [], L, f, h, h2 => ⟨h, h2⟩
  | e :: E, L, f, h, h2 => nbO_aux s d E (addO_rep e.count (nearE s d e) h h2).1 (addO_rep e.count (nearE s d e) h h2).2
theorem nbI_rep (s : ByteArray) (d : Int) (E : List Entry) : Rep' (nbI s d E) (nbF s d E) := nbI_aux s d E Rep'.nil
theorem nbO_rep (s : ByteArray) (d : Int) (E : List Entry) : Rep' (nbO s d E) (nbF s d E) ∧ Asc ltE (nbO s d E) := nbO_aux s d E Rep'.nil .nil
theorem nbIO (s : ByteArray) (d : Int) (E : List Entry) : insAll ltE (nbI s d E) = nbO s d E ∧ (nbI s d E).Pairwise fun a b => ltE a b = true ∨ ltE b a = true := by
  have h1 := nbI_rep s d E
  obtain ⟨h2, h3⟩ := nbO_rep s d E
  have hp : (nbI s d E).Pairwise fun a b => ltE a b = true ∨ ltE b a = true := h1.nd.imp fun h => ltE_ne h
  refine ⟨(insAll_unique ltE_strict hp (h2.perm h1) ?_).symm, hp⟩
  exact List.Pairwise.imp (fun h => ltE_strict.asymm h) h3
/-! ## one more -/
theorem addI_succ (c : Int) {ns : List ByteArray} {j : Nat} (hj : j < ns.length) (L : List Entry) : addI c (ns.take (j + 1)) L = bump (addI c (ns.take j) L) ns[j] c := by
  unfold addI; rw [List.take_succ_eq_append_getElem hj, List.foldl_append]; rfl
theorem addO_succ (c : Int) {ns : List ByteArray} {j : Nat} (hj : j < ns.length) (L : List Entry) : addO c (ns.take (j + 1)) L = insB (addO c (ns.take j) L) ns[j] c := by
  unfold addO; rw [List.take_succ_eq_append_getElem hj, List.foldl_append]; rfl
theorem nbI_succ (s : ByteArray) (d : Int) {E : List Entry} {k : Nat} (hk : k < E.length) : nbI s d (E.take (k + 1)) = addI E[k].count (nearE s d E[k]) (nbI s d (E.take k)) := by
  unfold nbI; rw [List.take_succ_eq_append_getElem hk, List.foldl_append]; rfl
theorem nbO_succ (s : ByteArray) (d : Int) {E : List Entry} {k : Nat} (hk : k < E.length) : nbO s d (E.take (k + 1)) = addO E[k].count (nearE s d E[k]) (nbO s d (E.take k)) := by
  unfold nbO; rw [List.take_succ_eq_append_getElem hk, List.foldl_append]; rfl
theorem nbF_succ (s : ByteArray) (d : Int) {E : List Entry} {k : Nat} (hk : k < E.length) : nbF s d (E.take (k + 1)) = addF' E[k].count (nearE s d E[k]) (nbF s d (E.take k)) := by
  unfold nbF; rw [List.take_succ_eq_append_getElem hk, List.foldl_append]; rfl
theorem sumE_succ {E : List Entry} {k : Nat} (hk : k < E.length) : sumE (E.take (k + 1)) = sumE (E.take k) + E[k].count := by
  unfold sumE; rw [List.take_succ_eq_append_getElem hk, List.map_append, List.sum_append]; simp
/-! ## how large the counts are -/
theorem nearK_nodup (s : ByteArray) (d : Int) (ns : List ByteArray) : ∀ k, (nearK s d ns k).Nodup
  | 0 => by simp [nearK]
  | k + 1 => by
    have ih := nearK_nodup s d ns k
    rw [nearK]
    split
    · rename_i h
      rw [List.nodup_append]
      refine ⟨ih, by simp, fun a ha b hb => ?_⟩
      simp only [List.mem_cons, List.not_mem_nil, or_false] at hb
      rw [hb]
      exact fun e => h.2.2.2 (by rw [← e]; exact ha)
    · exact ih
def Bd (f : ByteArray → Option Int) (S : Int) (ns : List ByteArray) (c : Int) : Prop := ∀ t n, f t = some n → 0 ≤ n ∧ n ≤ S + (if t ∈ ns then c else 0)
theorem addF_bd {c S : Int} (hc : 0 ≤ c) (hS : 0 ≤ S) {f : ByteArray → Option Int} (h : Bd f S [] c) {ns : List ByteArray} (hn : ns.Nodup) : ∀ j, j ≤ ns.length → Bd (addF' c (ns.take j) f) S (ns.take j) c
  | 0, _ => by simpa [addF'] using h
  | j + 1, hj => by
    have ih := addF_bd hc hS h hn j (by omega)
    have hj' : j < ns.length := by omega
    have hnot : ns[j] ∉ ns.take j := fun hm => by
      obtain ⟨i, hi, he⟩ := List.mem_take_iff_getElem.1 hm
      have := (List.pairwise_iff_getElem.1 hn) i j (by omega) hj' (by omega)
      exact this he
    intro t n ht
    have e1 : addF' c (ns.take (j + 1)) f = updF (addF' c (ns.take j) f) ns[j] c := by
      unfold addF'; rw [List.take_succ_eq_append_getElem hj', List.foldl_append]; rfl
    rw [e1] at ht
    unfold updF at ht
    rw [List.take_succ_eq_append_getElem hj']
    by_cases h1 : t = ns[j]
    · rw [if_pos h1] at ht
      simp only [Option.some.injEq] at ht
      rw [if_pos (List.mem_append_right _ (List.mem_singleton.2 h1))]
      cases hq : addF' c (ns.take j) f ns[j] with
      | none => rw [hq] at ht; simp only [Option.getD_none] at ht; omega
      | some m =>
        have := ih _ _ hq
        rw [if_neg hnot] at this
        rw [hq] at ht; simp only [Option.getD_some] at ht; omega
    · rw [if_neg h1] at ht
      have := ih _ _ ht
      have e2 : (t ∈ ns.take j ++ [ns[j]]) ↔ t ∈ ns.take j := by rw [List.mem_append, List.mem_singleton]; exact ⟨fun h => h.resolve_right h1, .inl⟩
      simp only [e2]; exact this
theorem nbF_bd (s : ByteArray) (d : Int) {E : List Entry} (h : ∀ e ∈ E, 0 ≤ e.count) : ∀ k, k ≤ E.length → ∀ c, Bd (nbF s d (E.take k)) (sumE (E.take k)) [] c ∧ 0 ≤ sumE (E.take k)
  | 0, _, c => ⟨fun t n ht => by simp [nbF] at ht, by simp [sumE]⟩
  | k + 1, hk, c => by
    have hk' : k < E.length := by omega
    obtain ⟨ih, h0⟩ := nbF_bd s d h k (by omega) E[k].count
    have hc := h _ (List.getElem_mem hk')
    have h1 := addF_bd hc h0 ih (nearK_nodup s d (namesE E[k]) (namesE E[k]).length) _ (Nat.le_refl _)
    rw [List.take_length] at h1
    rw [sumE_succ hk', nbF_succ s d hk']
    refine ⟨fun t n ht => ?_, by omega⟩
    have := h1 t n ht
    simp only [List.not_mem_nil, if_false]
    split at this <;> omega
/-- what stands for a name that has not come up yet in this entry -/
theorem nb_room {s : ByteArray} {d : Int} {E : List Entry} (h : ∀ e ∈ E, 0 ≤ e.count) {k : Nat} (hk : k < E.length) {j : Nat} (hj : j < (nearE s d E[k]).length) {n : Int}
    (hn : addF' E[k].count ((nearE s d E[k]).take j) (nbF s d (E.take k)) (nearE s d E[k])[j] = some n) : 0 ≤ n ∧ n + E[k].count ≤ sumE (E.take (k + 1)) := by
  obtain ⟨h1, h0⟩ := nbF_bd s d h k (by omega) E[k].count
  have hc := h _ (List.getElem_mem hk)
  have hnd := nearK_nodup s d (namesE E[k]) (namesE E[k]).length
  have h2 := addF_bd hc h0 h1 hnd j (by unfold nearE at hj; omega)
  have h3 : 0 ≤ n ∧ n ≤ sumE (E.take k) + (if (nearE s d E[k])[j] ∈ (nearE s d E[k]).take j then E[k].count else 0) := h2 _ _ hn
  have hnot : (nearE s d E[k])[j] ∉ (nearE s d E[k]).take j := fun hm => by
    obtain ⟨i, hi, he⟩ := List.mem_take_iff_getElem.1 hm
    have := (List.pairwise_iff_getElem.1 hnd) i j (by unfold nearE at hj; omega) (by unfold nearE at hj; omega) (by omega)
    exact this he
  rw [if_neg hnot] at h3
  rw [sumE_succ hk]
  omega
end Go.Proofs.YtahcfcimfcjhhaaGreatDoor

/-
  DERIVED. Plain lists: what is in a profile, and what a stack that is added changes of it.
-/
namespace Go.Proofs.YtahcfcimfcjhhaaGreatDoor
set_option linter.unusedVariables false
open Go.Pl
/-! ## stacks of longer lists of nodes -/
theorem upF_app {N : List Node} (hok : stacksOk N = true) (M : List Node) : ∀ (n f q : Nat), q < n → q < N.length → q < f → upF (N ++ M) f q = upF N f q
  | 0, f, q, h, _, _ => by omega
  | n + 1, f, q, h, hq, hf => by
    rw [upF_pos N f q hq hf, upF_pos (N ++ M) f q (by rw [List.length_append]; omega) hf, List.getElem_append_left hq]
    congr 1
    have hn := stNode_iff.1 (stacksOk_at hok q hq)
    rcases Int.lt_or_le N[q].parent 0 with h0 | h0
    · rw [upF_neg _ _ _ h0, upF_neg _ _ _ h0]
    · obtain ⟨r, hr⟩ := Int.eq_ofNat_of_zero_le h0
      rw [hr] at hn ⊢
      exact upF_app hok M n (f - 1) r (by omega) (by omega) (by omega)
/-- the frames up to a node, or none -/
def stk (N : List Node) (k : Int) : List Frame := (upF N (k.toNat + 1) k).reverse
theorem stk_neg (N : List Node) {k : Int} (h : k < 0) : stk N k = [] := by unfold stk; rw [upF_neg _ _ _ h]; rfl
theorem stackAt_stk {N : List Node} (hok : stacksOk N = true) {k : Nat} (hk : k < N.length) : stackAt N k = stk N k := by
  unfold stackAt stk
  rw [if_pos ⟨hok, by omega, by omega⟩]
theorem stk_app {N : List Node} (hok : stacksOk N = true) (M : List Node) {k : Nat} (hk : k < N.length) : stk (N ++ M) k = stk N k := by
  unfold stk
  rw [Int.toNat_natCast, upF_app hok M (k + 1) (k + 1) k (by omega) hk (by omega)]
theorem stk_step {N : List Node} (hok : stacksOk N = true) {k : Nat} (hk : k < N.length) : stk N k = stk N N[k].parent ++ [nodeFr N[k]] := by
  have hn := stNode_iff.1 (stacksOk_at hok k hk)
  unfold stk
  rw [Int.toNat_natCast, upF_pos N (k + 1) k hk (by omega), List.reverse_cons]
  congr 2
  rcases Int.lt_or_le N[k].parent 0 with h0 | h0
  · rw [upF_neg _ _ _ h0, upF_neg _ _ _ h0]
  · obtain ⟨r, hr⟩ := Int.eq_ofNat_of_zero_le h0
    rw [hr] at hn ⊢
    rw [Int.toNat_natCast]
    exact upF_fuel hok (r + 1) _ _ r (by omega) (by omega) (by omega) (by omega)
/-! ## what interning finds -/
theorem child_hit {N : List Node} {p : Int} {f : Frame} (h : ¬ child N p f < 0) : ∃ (k : Nat) (hk : k < N.length), child N p f = k ∧ N[k].parent = p ∧ nodeFr N[k] = f := by
  obtain ⟨k, hk, h1, h2⟩ := firstIdx_pos h
  simp only [hitNode, Bool.and_eq_true, decide_eq_true_eq] at h2
  exact ⟨k, hk, h1, h2.1, h2.2⟩
theorem stk_mk {N : List Node} {p : Int} {f : Frame} (hok : stacksOk (N ++ [mkNode p f]) = true) (hok0 : stacksOk N = true) (hp : -1 ≤ p) (hq : p < N.length) : stk (N ++ [mkNode p f]) (N.length : Int) = stk N p ++ [f] := by
  have hl : N.length < (N ++ [mkNode p f]).length := by simp
  rw [stk_step hok hl]
  have e : (N ++ [mkNode p f])[N.length] = mkNode p f := by simp
  rw [e]
  have e2 : nodeFr (mkNode p f) = f := rfl
  rw [e2]
  congr 1
  show stk (N ++ [mkNode p f]) p = stk N p
  rcases Int.lt_or_le p 0 with h0 | h0
  · rw [stk_neg _ h0, stk_neg _ h0]
  · obtain ⟨r, hr⟩ := Int.eq_ofNat_of_zero_le h0
    subst hr
    exact stk_app hok0 _ (by omega)
/-- interning from (N, p) ends at a node of p's stack and these frames; it only appends -/
theorem intGo_stk : ∀ (L : List Frame) (s : List Node × Int), stacksOk s.1 = true → L.all frOk = true → -1 ≤ s.2 → s.2 < s.1.length → ∃ M, (intGo L s).1 = s.1 ++ M ∧ stk (intGo L s).1 (intGo L s).2 = stk s.1 s.2 ++ L
  | [], s, h, _, _, _ => ⟨[], by simp [intGo], by simp [intGo]⟩
  | f :: L, s, h, ha, h1, h2 => by
    simp only [List.all_cons, Bool.and_eq_true] at ha
    have hb := child_bound s.1 s.2 f
    rw [intGo]
    split
    · rename_i hc
      have hok := stacksOk_snoc h h1 h2 ha.1 hc
      obtain ⟨M, e1, e2⟩ := intGo_stk L (s.1 ++ [mkNode s.2 f], (s.1.length : Int)) hok ha.2 (by simp only; omega) (by simp only [List.length_append, List.length_cons, List.length_nil]; omega)
      refine ⟨[mkNode s.2 f] ++ M, by rw [e1]; simp, ?_⟩
      rw [e2]
      simp only
      rw [stk_mk hok h h1 h2]
      simp
    · rename_i hc
      obtain ⟨k, hk, c1, c2, c3⟩ := child_hit hc
      obtain ⟨M, e1, e2⟩ := intGo_stk L (s.1, child s.1 s.2 f) h ha.2 hb.1 hb.2
      refine ⟨M, e1, ?_⟩
      rw [e2]
      simp only
      rw [c1, stk_step h hk, c2, c3]
      simp
theorem intern_stk {N : List Node} {L : List Frame} (h : stacksOk N = true) (hL : L ≠ []) (ha : L.all frOk = true) : ∃ M, (intern N L).1 = N ++ M ∧ stk (intern N L).1 (intern N L).2 = L := by
  unfold intern
  rw [if_pos ⟨h, hL, ha⟩]
  obtain ⟨M, e1, e2⟩ := intGo_stk L (N, -1) h ha (by simp only; omega) (by simp only; omega)
  refine ⟨M, e1, ?_⟩
  rw [e2]
  simp only
  rw [stk_neg _ (by omega)]
  rfl
/-! ## the entries -/
theorem mem_entries {N : List Node} {C : List Int} (hp : profileOk N C = true) {e : Entry} : e ∈ entriesOf N C ↔ ∃ (k : Nat), k < N.length ∧ C.getD k 0 ≠ 0 ∧ e = ⟨fmtF (stk N k), C.getD k 0⟩ := by
  obtain ⟨p1, p2, p3⟩ := profileOk_iff.1 hp
  unfold entriesOf
  rw [if_pos hp, insAll_mem]
  constructor
  · intro h
    obtain ⟨k, hk, h1, h2⟩ := rawE_mem h
    exact ⟨k, by omega, h1, by rw [h2, stackAt_stk p1 (by omega)]⟩
  · rintro ⟨k, hk, h1, h2⟩
    unfold rawE
    refine List.mem_filterMap.2 ⟨k, List.mem_range.2 (by omega), ?_⟩
    unfold entAt
    rw [if_neg h1, h2, stackAt_stk p1 hk]
theorem entries_apart {N : List Node} {C : List Int} (hp : profileOk N C = true) : (entriesOf N C).Pairwise fun a b => a.stack ≠ b.stack := by
  obtain ⟨p1, p2, p3⟩ := profileOk_iff.1 hp
  unfold entriesOf
  rw [if_pos hp]
  exact ((insAll_perm _).pairwise_iff (fun {a b} h => Ne.symm h)).2 (rawE_apart p1 C C.length (by omega))
theorem entries_asc {N : List Node} {C : List Int} : Asc ltE (entriesOf N C) := by
  unfold entriesOf
  split
  · rename_i hp
    obtain ⟨p1, p2, p3⟩ := profileOk_iff.1 hp
    exact insAll_asc ltE_strict (rawE_pair p1 C C.length (by omega))
  · exact .nil
theorem fmt_stk_inj {N : List Node} (hok : stacksOk N = true) {j k : Nat} (hj : j < N.length) (hk : k < N.length) (h : fmtF (stk N j) = fmtF (stk N k)) : j = k := by
  rw [← stackAt_stk hok hj, ← stackAt_stk hok hk] at h
  exact stackAt_inj hok hj hk (fmtF_inj (stackAt_ok _ _) (stackAt_ok _ _) (stackAt_ne hok j hj) (stackAt_ne hok k hk) h)
theorem getD_set' {C : List Int} {m k : Nat} {x : Int} (hm : m < C.length) : (C.set m x).getD k 0 = if k = m then x else C.getD k 0 := by
  rw [List.getD_eq_getElem?_getD, List.getElem?_set]
  by_cases h : m = k
  · subst h; simp [hm]
  · rw [if_neg h, if_neg (Ne.symm h), List.getD_eq_getElem?_getD]
theorem getD_pad {C : List Int} {m k : Nat} : (C ++ List.replicate m 0).getD k 0 = C.getD k 0 := by
  rw [List.getD_eq_getElem?_getD, List.getD_eq_getElem?_getD]
  rcases Nat.lt_or_ge k C.length with h | h
  · rw [List.getElem?_append_left h]
  · rw [List.getElem?_append_right h, List.getElem?_eq_none h]
    rw [List.getElem?_replicate]
    split <;> rfl
theorem addC_getD {C : List Int} {m q k : Nat} {n : Int} (hq : q < max C.length m) : (addC C m q n).getD k 0 = if k = q then C.getD k 0 + n else C.getD k 0 := by
  unfold addC
  rw [getD_set' (by simp only [List.length_append, List.length_replicate]; omega), getD_pad, getD_pad]
  split
  · rename_i h; rw [h]
  · rfl
/-- what a stack that is added changes -/
theorem addStack_rep {N : List Node} {C : List Int} {L : List Frame} {n : Int} (hp : profileOk N C = true) (hL : L ≠ []) (ha : L.all frOk = true) (hn : 0 < n) (hok : (addStack N C L n).2 = true) {f : ByteArray → Option Int} (hr : Rep' (entriesOf N C) f) :
    Rep' (entriesOf (addStack N C L n).1.1 (addStack N C L n).1.2) (updF f (fmtF L) n) := by
  have hp' := addStack_ok hok
  obtain ⟨p1, p2, p3⟩ := profileOk_iff.1 hp
  have hc : (addStack N C L n).1 = ((intern N L).1, addC C (intern N L).1.length (intern N L).2.toNat n) := by
    unfold addStack at hok ⊢
    split at hok
    · rename_i h; rw [if_pos h]
    · cases hok
  rw [hc] at hp' ⊢
  simp only at hp' ⊢
  obtain ⟨M, e1, e2⟩ := intern_stk (N := N) p1 hL ha
  obtain ⟨i0, i1⟩ := intern_pos (N := N) p1 hL ha
  obtain ⟨m, hm⟩ := Int.eq_ofNat_of_zero_le i0
  have hmt : (intern N L).2.toNat = m := by omega
  rw [hm] at e2 i1
  rw [hmt] at hp' ⊢
  generalize (intern N L).1 = N' at e1 e2 i1 hp' ⊢
  obtain ⟨q1, q2, q3⟩ := profileOk_iff.1 hp'
  have hNl : N.length ≤ N'.length := by rw [e1, List.length_append]; omega
  have hml : m < N'.length := by omega
  have hold : ∀ k, k < N.length → stk N' k = stk N k := fun k hk => by rw [e1]; exact stk_app p1 M hk
  have hg : ∀ k, (addC C N'.length m n).getD k 0 = if k = m then C.getD k 0 + n else C.getD k 0 := fun k => addC_getD (by omega)
  have hC0 : ∀ k, 0 ≤ C.getD k 0 := fun k => by
    rw [List.getD_eq_getElem?_getD]
    cases hk : C[k]? with
    | none => simp
    | some x => exact cntOk_nonneg p3 x (List.mem_of_getElem? hk)
  have hfm : f (fmtF L) = if C.getD m 0 = 0 then none else some (C.getD m 0) := by
    by_cases hz : C.getD m 0 = 0
    · rw [if_pos hz]
      cases hf : f (fmtF L) with
      | none => rfl
      | some x =>
        exfalso
        have he : (⟨fmtF L, x⟩ : Entry) ∈ entriesOf N C := (hr.mem ⟨fmtF L, x⟩).2 hf
        obtain ⟨k, hk, k1, k2⟩ := (mem_entries hp).1 he
        simp only [Entry.mk.injEq] at k2
        have : k = m := by
          refine fmt_stk_inj q1 (by omega) hml ?_
          rw [hold k hk, ← k2.1, e2]
        subst this
        exact k1 hz
    · rw [if_neg hz]
      have hmN : m < N.length := by
        rcases Nat.lt_or_ge m N.length with h | h
        · exact h
        · exfalso; apply hz
          rw [List.getD_eq_getElem?_getD, List.getElem?_eq_none (by omega)]; rfl
      have he : (⟨fmtF L, C.getD m 0⟩ : Entry) ∈ entriesOf N C := (mem_entries hp).2 ⟨m, hmN, hz, by rw [← hold m hmN, e2]⟩
      exact (hr.mem _).1 he
  refine ⟨entries_apart hp', fun e => ?_⟩
  rw [mem_entries hp']
  unfold updF
  have hbeyond : ∀ k, N.length ≤ k → C.getD k 0 = 0 := fun k hk => by rw [List.getD_eq_getElem?_getD, List.getElem?_eq_none (by omega)]; rfl
  constructor
  · rintro ⟨k, hk, k1, rfl⟩
    rw [hg] at k1
    simp only [hg]
    by_cases hkm : k = m
    · subst hkm
      rw [if_pos rfl] at k1 ⊢
      rw [e2, if_pos rfl, hfm]
      by_cases hz : C.getD k 0 = 0
      · rw [if_pos hz, hz]; simp
      · rw [if_neg hz]; simp
    · rw [if_neg hkm] at k1 ⊢
      have hkN : k < N.length := by
        rcases Nat.lt_or_ge k N.length with h | h
        · exact h
        · exact absurd (hbeyond k h) k1
      have hne : ¬ fmtF (stk N' k) = fmtF L := fun e => hkm (fmt_stk_inj q1 hk hml (by rw [e, e2]))
      rw [if_neg hne]
      have he : (⟨fmtF (stk N' k), C.getD k 0⟩ : Entry) ∈ entriesOf N C := (mem_entries hp).2 ⟨k, hkN, k1, by rw [hold k hkN]⟩
      exact (hr.mem _).1 he
  · intro h
    by_cases hs : e.stack = fmtF L
    · rw [if_pos hs, hfm] at h
      refine ⟨m, hml, ?_, ?_⟩
      · rw [hg, if_pos rfl]; have := hC0 m; omega
      · rw [hg, if_pos rfl, e2]
        obtain ⟨a, b⟩ := e
        simp only at hs h
        rw [hs]
        simp only [Option.some.injEq] at h
        congr 1
        rw [← h]
        split
        · rename_i hz; rw [hz]; rfl
        · rfl
    · rw [if_neg hs] at h
      obtain ⟨k, hk, k1, k2⟩ := (mem_entries hp).1 ((hr.mem e).2 h)
      have hkm : ¬ k = m := fun e' => by
        subst e'
        apply hs
        rw [k2]
        simp only
        rw [← hold k hk, e2]
      refine ⟨k, by omega, by rw [hg, if_neg hkm]; exact k1, ?_⟩
      rw [hg, if_neg hkm, hold k hk]; exact k2
/-! ## the profile of entries -/
theorem profGo_rep : ∀ (L : List Entry) (s : List Node × List Int) (f : ByteArray → Option Int), profileOk s.1 s.2 = true → Rep' (entriesOf s.1 s.2) f → (∀ e ∈ L, 0 < e.count) → ∀ t, profGo L s = some t →
    profileOk t.1 t.2 = true ∧ Rep' (entriesOf t.1 t.2) (L.foldl (fun f e => updF f e.stack e.count) f)
  | [], s, f, h, hr, _, t, ht => by rw [profGo] at ht; cases ht; exact ⟨h, hr⟩
  | e :: L, s, f, h, hr, hc, t, ht => by
    cases hp : parseF e.stack with
    | none => rw [profGo_no hp] at ht; cases ht
    | some g =>
      cases hb : (addStack s.1 s.2 g e.count).2 with
      | false => rw [profGo_bad hp hb] at ht; cases ht
      | true =>
        rw [profGo_ok hp hb] at ht
        obtain ⟨g1, g2, g3⟩ := parseF_some hp
        have hr' := addStack_rep h g2 g3 (hc e List.mem_cons_self) hb hr
        rw [g1] at hr'
        exact profGo_rep L _ _ (addStack_ok hb) hr' (fun x hx => hc x (List.mem_cons_of_mem _ hx)) t ht
theorem ents_nil : entriesOf [] [] = [] := by decide
theorem profileOf_rep {L : List Entry} (hc : ∀ e ∈ L, 0 < e.count) {t : List Node × List Int} (ht : profileOf L = some t) : profileOk t.1 t.2 = true ∧ Rep' (entriesOf t.1 t.2) (L.foldl (fun f e => updF f e.stack e.count) fun _ => none) :=
  profGo_rep L ([], []) _ nilOk (by rw [ents_nil]; exact Rep'.nil) hc t ht
/-- entries with distinct stacks come back, sorted -/
theorem fold_rep : ∀ (L A : List Entry) (f : ByteArray → Option Int), Rep' A f → (A ++ L).Pairwise (fun a b => a.stack ≠ b.stack) → Rep' (A ++ L) (L.foldl (fun f e => updF f e.stack e.count) f)
  | [], A, f, h, _ => by rw [List.append_nil]; exact h
  | e :: L, A, f, h, hd => by
    have hne : ∀ x ∈ A, x.stack ≠ e.stack := fun x hx => (List.pairwise_append.1 hd).2.2 x hx e List.mem_cons_self
    have h1 := h.put (A := A) (B := []) (by simp) (s := e.stack) (c := e.count) hne
    have h2 := fold_rep L (A ++ [e]) _ h1 (by simpa using hd)
    simpa using h2
theorem profileOf_entries {L : List Entry} (hc : ∀ e ∈ L, 0 < e.count) (hd : L.Pairwise fun a b => a.stack ≠ b.stack) {t : List Node × List Int} (ht : profileOf L = some t) : entriesOf t.1 t.2 = insAll ltE L := by
  obtain ⟨_, hr⟩ := profileOf_rep hc ht
  have h2 := fold_rep L [] _ Rep'.nil (by simpa using hd)
  rw [List.nil_append] at h2
  have hp : L.Pairwise fun a b => ltE a b = true ∨ ltE b a = true := hd.imp fun h => ltE_ne h
  exact insAll_unique ltE_strict hp (hr.perm h2) (List.Pairwise.imp (fun h => ltE_strict.asymm h) entries_asc)
end Go.Proofs.YtahcfcimfcjhhaaGreatDoor

/-
  DERIVED. Plain lists: the entries of a profile of entries; stacks from a name on, and without a name.
-/
namespace Go.Proofs.YtahcfcimfcjhhaaGreatDoor
set_option linter.unusedVariables false
open Go.Pl
theorem insAll_self {L : List Entry} (h : Asc ltE L) : insAll ltE L = L :=
  (insAll_unique ltE_strict (List.Pairwise.imp (fun h => .inl h) h) (List.Perm.refl _) (List.Pairwise.imp (fun h => ltE_strict.asymm h) h)).symm
theorem asc_apart {L : List Entry} (h : Asc ltE L) : L.Pairwise fun a b => a.stack ≠ b.stack := List.Pairwise.imp (fun h => ltS_ne h) h
/-- what is kept of a profile's entries makes a profile, and these are its entries -/
theorem keep_back (N : List Node) (C : List Int) (p : Entry → Bool) : ∃ t, profileOf ((entriesOf N C).filter p) = some t ∧ profileOk t.1 t.2 = true ∧ entriesOf t.1 t.2 = (entriesOf N C).filter p := by
  obtain ⟨t, h1, h2, _⟩ := filter_total N C p
  have ha : Asc ltE ((entriesOf N C).filter p) := List.Pairwise.filter _ entries_asc
  refine ⟨t, h1, h2, ?_⟩
  rw [profileOf_entries (fun e he => by obtain ⟨_, k, _, _, _, h, _⟩ := entriesOf_mem (List.mem_filter.1 he).1; exact h) (asc_apart ha) h1, insAll_self ha]
theorem pick_back (N : List Node) (C : List Int) (s : ByteArray) (b : Bool) : entriesOf (mapP (pick s b) N C).1 (mapP (pick s b) N C).2 = (entriesOf N C).filter (keepS s b) := by
  obtain ⟨t, h1, _, h3⟩ := keep_back N C (keepS s b)
  unfold mapP
  rw [pick_list, h1]
  exact h3
theorem self_back {N : List Node} {C : List Int} (hp : profileOk N C = true) : ∃ t, profileOf (entriesOf N C) = some t ∧ profileOk t.1 t.2 = true ∧ entriesOf t.1 t.2 = entriesOf N C := by
  have := keep_back N C (fun _ => true)
  rwa [List.filter_eq_self.2 (fun _ _ => rfl)] at this
/-- in any order -/
theorem perm_back {N : List Node} {C : List Int} {L : List Entry} (h : L.Perm (entriesOf N C)) : ∃ t, profileOf L = some t ∧ profileOk t.1 t.2 = true ∧ entriesOf t.1 t.2 = entriesOf N C := by
  have hm : ∀ e ∈ L, e ∈ entriesOf N C := fun e he => h.mem_iff.1 he
  have hs : sumE L = sumE (entriesOf N C) := by unfold sumE; exact perm_sum (h.map _)
  obtain ⟨t, h1, h2, _⟩ := profileOf_total (L := L) (fun e he => by
    obtain ⟨g1, _, g2, _, g3⟩ := ent_frs (hm e he)
    obtain ⟨_, k, _, _, _, g4, _⟩ := entriesOf_mem (hm e he)
    exact ⟨g1, g2, g3, by omega⟩) (by rw [hs, sumE_entries]; have := totalOf_bound N C; omega)
  refine ⟨t, h1, h2, ?_⟩
  have hap : L.Pairwise fun a b => a.stack ≠ b.stack := (h.pairwise_iff (fun {a b} h => Ne.symm h)).2 (asc_apart entries_asc)
  rw [profileOf_entries (fun e he => by obtain ⟨_, k, _, _, _, g4, _⟩ := entriesOf_mem (hm e he); exact g4) hap h1]
  have hp : (entriesOf N C).Pairwise fun a b => ltE a b = true ∨ ltE b a = true := List.Pairwise.imp (fun h => .inl h) entries_asc
  have hpL : L.Pairwise fun a b => ltE a b = true ∨ ltE b a = true := hap.imp fun h => ltE_ne h
  exact (insAll_unique ltE_strict hpL h.symm (List.Pairwise.imp (fun h => ltE_strict.asymm h) entries_asc)).symm
/-! ## from a name on -/
def fromG (s : ByteArray) (L : List Frame) : List Frame := if idxF s L < 0 then [] else L.drop (idxF s L).toNat
theorem fromG_len (s : ByteArray) (L : List Frame) : (fromG s L).length ≤ L.length := by
  unfold fromG
  split
  · simp
  · rw [List.length_drop]; omega
def fromE (s : ByteArray) (e : Entry) : Entry := ⟨fmtF ((frsE e).drop (idxF s (frsE e)).toNat), e.count⟩
theorem idxF_lt {s : ByteArray} {L : List Frame} (h : ¬ idxF s L < 0) : (idxF s L).toNat < L.length := by
  obtain ⟨k, hk, h1, _⟩ := firstIdx_pos h
  have h2 : idxF s L = k := h1
  omega
theorem from_list (s : ByteArray) (N : List Node) (C : List Int) : ((entriesOf N C).filter (keepS s true)).map (fromE s) = (entriesOf N C).filterMap (mapG (fromG s)) := by
  generalize entriesOf N C = E
  induction E with
  | nil => rfl
  | cons e E ih =>
    rw [List.filter_cons, List.filterMap_cons]
    by_cases h : idxF s (frsE e) < 0
    · have h1 : keepS s true e = false := by simp only [keepS]; simp; omega
      have h2 : mapG (fromG s) e = none := by unfold mapG fromG; rw [if_pos h, if_pos rfl]
      rw [h1, h2]
      simpa using ih
    · have h1 : keepS s true e = true := by simp only [keepS]; simp; omega
      have hne : (frsE e).drop (idxF s (frsE e)).toNat ≠ [] := fun h0 => by
        have := congrArg List.length h0
        have := idxF_lt h
        rw [List.length_drop] at *
        simp at *
        omega
      have h2 : mapG (fromG s) e = some (fromE s e) := by unfold mapG fromG; rw [if_neg h, if_neg hne]; rfl
      rw [h1, h2, if_pos rfl, List.map_cons, ih]
/-! ## without a name -/
def hideG (s : ByteArray) (L : List Frame) : List Frame := L.filter fun f => !hasName s f
theorem hideG_len (s : ByteArray) (L : List Frame) : (hideG s L).length ≤ L.length := List.length_filter_le _ _
end Go.Proofs.YtahcfcimfcjhhaaGreatDoor

/-
  DERIVED. Plain lists: stacks changed one by one: totals, and what the entries are then.
-/
namespace Go.Proofs.YtahcfcimfcjhhaaGreatDoor
set_option linter.unusedVariables false
open Go.Pl
def Fine (g : List Frame → List Frame) : Prop := ∀ F : List Frame, F.all frOk = true → (g F).all frOk = true
theorem mapG_frs {g : List Frame → List Frame} (hg : Fine g) {N : List Node} {C : List Int} {e x : Entry} (he : e ∈ entriesOf N C) (h : mapG g e = some x) : x.stack = fmtF (g (frsE e)) ∧ frsE x = g (frsE e) ∧ frsE x ≠ [] ∧ (frsE x).all frOk = true ∧ parseF x.stack = some (frsE x) ∧ x.count = e.count := by
  unfold mapG at h
  split at h
  · cases h
  rename_i hne
  cases h
  obtain ⟨_, _, h2, _, _⟩ := ent_frs he
  have h3 := parseF_fmtF (hg _ h2) hne
  have h4 : frsE (⟨fmtF (g (frsE e)), e.count⟩ : Entry) = g (frsE e) := by unfold frsE at h3 ⊢; simp only [h3, Option.getD_some]
  exact ⟨rfl, h4, by rw [h4]; exact hne, by rw [h4]; exact hg _ h2, by rw [h4]; exact h3, rfl⟩
theorem fm_sum {g : List Frame → List Frame} : ∀ {L : List Entry}, (∀ e ∈ L, 0 ≤ e.count) → 0 ≤ sumE (L.filterMap (mapG g)) ∧ sumE (L.filterMap (mapG g)) ≤ sumE L
  | [], _ => by simp [sumE]
  | e :: L, h => by
    obtain ⟨h1, h2⟩ := fm_sum (g := g) (L := L) fun x hx => h x (List.mem_cons_of_mem _ hx)
    have h3 := h e List.mem_cons_self
    have hc : sumE (e :: L) = e.count + sumE L := by simp [sumE]
    rw [List.filterMap_cons]
    unfold mapG at h1 h2 ⊢
    split
    · omega
    · rename_i x hx
      split at hx
      · cases hx
      · cases hx
        have hd : ∀ M : List Entry, sumE ((⟨fmtF (g (frsE e)), e.count⟩ : Entry) :: M) = e.count + sumE M := fun M => by simp [sumE]
        rw [hd]; omega
theorem fm_all {g : List Frame → List Frame} : ∀ {L : List Entry}, (∀ e ∈ L, g (frsE e) ≠ []) → sumE (L.filterMap (mapG g)) = sumE L
  | [], _ => rfl
  | e :: L, h => by
    have ih := fm_all (g := g) (L := L) fun x hx => h x (List.mem_cons_of_mem _ hx)
    have hm : mapG g e = some ⟨fmtF (g (frsE e)), e.count⟩ := if_neg (h e List.mem_cons_self)
    have hd : ∀ (x : Entry) (M : List Entry), sumE (x :: M) = x.count + sumE M := fun x M => by simp [sumE]
    rw [List.filterMap_cons, hm]
    simp only [hd, ih]
theorem map_back {g : List Frame → List Frame} (hg : Fine g) (N : List Node) (C : List Int) : ∃ t, profileOf ((entriesOf N C).filterMap (mapG g)) = some t ∧ profileOk t.1 t.2 = true ∧ t.2.sum = sumE ((entriesOf N C).filterMap (mapG g)) := by
  have hp : ∀ e ∈ entriesOf N C, 0 ≤ e.count := fun e he => by obtain ⟨_, k, _, _, _, h, _⟩ := entriesOf_mem he; omega
  refine profileOf_total (fun x hx => ?_) ?_
  · obtain ⟨e, he, hm⟩ := List.mem_filterMap.1 hx
    obtain ⟨_, _, h3, h4, h5, h6⟩ := mapG_frs hg he hm
    exact ⟨h3, h4, h5, by rw [h6]; exact hp e he⟩
  · have h1 := (fm_sum (g := g) hp).2
    rw [sumE_entries] at h1
    have := totalOf_bound N C
    omega
theorem fold_some : ∀ (L : List Entry) (f : ByteArray → Option Int) {t : ByteArray} {n : Int}, (L.foldl (fun f e => updF f e.stack e.count) f) t = some n → f t ≠ none ∨ ∃ x ∈ L, x.stack = t
  | [], f, t, n, h => .inl (by rw [List.foldl_nil] at h; rw [h]; simp)
  | e :: L, f, t, n, h => by
    rw [List.foldl_cons] at h
    rcases fold_some L _ h with h1 | ⟨x, hx, hs⟩
    · by_cases he : e.stack = t
      · exact .inr ⟨e, List.mem_cons_self, he⟩
      · unfold updF at h1
        rw [if_neg fun hh => he hh.symm] at h1
        exact .inl h1
    · exact .inr ⟨x, List.mem_cons_of_mem _ hx, hs⟩
theorem prof_stack {L : List Entry} (hc : ∀ e ∈ L, 0 < e.count) {t : List Node × List Int} (ht : profileOf L = some t) {e : Entry} (he : e ∈ entriesOf t.1 t.2) : ∃ x ∈ L, x.stack = e.stack := by
  obtain ⟨_, hr⟩ := profileOf_rep hc ht
  rcases fold_some L _ ((hr.mem e).1 he) with h | h
  · exact absurd rfl h
  · exact h
/-- what the stacks are behind the change -/
theorem map_frs {g : List Frame → List Frame} (hg : Fine g) {N : List Node} {C : List Int} {t : List Node × List Int} (ht : profileOf ((entriesOf N C).filterMap (mapG g)) = some t) {e : Entry} (he : e ∈ entriesOf t.1 t.2) : ∃ x ∈ entriesOf N C, frsE e = g (frsE x) := by
  obtain ⟨y, hy, hs⟩ := prof_stack (fun z hz => by
    obtain ⟨x, hx, hm⟩ := List.mem_filterMap.1 hz
    obtain ⟨_, k, _, _, _, h, _⟩ := entriesOf_mem hx
    rw [(mapG_frs hg hx hm).2.2.2.2.2]; exact h) ht he
  obtain ⟨x, hx, hm⟩ := List.mem_filterMap.1 hy
  obtain ⟨h1, h2, _⟩ := mapG_frs hg hx hm
  refine ⟨x, hx, ?_⟩
  rw [← h2]
  unfold frsE
  rw [hs]
theorem mapP_some {g : List Frame → List Frame} {N : List Node} {C : List Int} {t : List Node × List Int} (h : profileOf ((entriesOf N C).filterMap (mapG g)) = some t) : mapP g N C = t := by unfold mapP; rw [h]; rfl
theorem mapP_ok {g : List Frame → List Frame} (hg : Fine g) (N : List Node) (C : List Int) : profileOk (mapP g N C).1 (mapP g N C).2 = true := by
  obtain ⟨t, h1, h2, _⟩ := map_back hg N C
  rw [mapP_some h1]; exact h2
/-- no stack vanishes: the total stays -/
theorem mapP_total {g : List Frame → List Frame} (hg : Fine g) {N : List Node} {C : List Int} (hn : ∀ e ∈ entriesOf N C, g (frsE e) ≠ []) : totalOf (mapP g N C).1 (mapP g N C).2 = totalOf N C := by
  obtain ⟨t, h1, h2, h3⟩ := map_back hg N C
  rw [mapP_some h1]
  rw [fm_all hn, sumE_entries] at h3
  unfold totalOf at h3 ⊢
  rw [if_pos h2, h3]
theorem mapP_frs {g : List Frame → List Frame} (hg : Fine g) {N : List Node} {C : List Int} {e : Entry} (he : e ∈ entriesOf (mapP g N C).1 (mapP g N C).2) : ∃ x ∈ entriesOf N C, frsE e = g (frsE x) := by
  obtain ⟨t, h1, _, _⟩ := map_back hg N C
  rw [mapP_some h1] at he
  exact map_frs hg h1 he
/-- a change that does nothing more the second time -/
theorem mapP_twice {g : List Frame → List Frame} (hg : Fine g) (hgg : ∀ F, g (g F) = g F) (N : List Node) (C : List Int) : ∃ u, mapP g (mapP g N C).1 (mapP g N C).2 = u ∧ profileOk u.1 u.2 = true ∧ entriesOf u.1 u.2 = entriesOf (mapP g N C).1 (mapP g N C).2 := by
  have h1 : (entriesOf (mapP g N C).1 (mapP g N C).2).filterMap (mapG g) = entriesOf (mapP g N C).1 (mapP g N C).2 := by
    have : ∀ L : List Entry, (∀ e ∈ L, e ∈ entriesOf (mapP g N C).1 (mapP g N C).2) → L.filterMap (mapG g) = L := by
      intro L
      induction L with
      | nil => intro _; rfl
      | cons e L ih =>
        intro h
        have he := h e List.mem_cons_self
        obtain ⟨x, hx, hf⟩ := mapP_frs hg he
        obtain ⟨h2, h3, _⟩ := ent_frs he
        have h4 : g (frsE e) = frsE e := by rw [hf]; exact hgg _
        have hm : mapG g e = some e := by
          unfold mapG
          rw [h4, if_neg h2, h3]
        rw [List.filterMap_cons, hm]
        simp only
        rw [ih fun y hy => h y (List.mem_cons_of_mem _ hy)]
    exact this _ fun _ h => h
  obtain ⟨u, u1, u2, u3⟩ := self_back (mapP_ok hg N C)
  refine ⟨u, ?_, u2, u3⟩
  unfold mapP at u1 h1 ⊢
  rw [h1, u1]; rfl
/-! ## the changes -/
theorem topF_fine (n : Int) : Fine (topF n) := fun F h => by
  rw [List.all_eq_true] at h ⊢
  exact fun f hf => h f (List.mem_of_mem_take hf)
theorem topF_twice (n : Int) (F : List Frame) : topF n (topF n F) = topF n F := by unfold topF; rw [List.take_take, Nat.min_self]
theorem hideG_fine (s : ByteArray) : Fine (hideG s) := fun F h => by
  rw [List.all_eq_true] at h ⊢
  exact fun f hf => h f (List.mem_filter.1 hf).1
theorem hide_no (s : ByteArray) (F : List Frame) : idxF s (hideG s F) < 0 := by
  have : idxF s (hideG s F) = -1 := by
    unfold idxF firstIdx
    have : (hideG s F).findIdx? (hasName s) = none := by
      rw [List.findIdx?_eq_none_iff]
      intro f hf
      have := (List.mem_filter.1 hf).2
      simpa using this
    rw [this]
  omega
/-- hidden names are gone -/
theorem hide_focus (s : ByteArray) (N : List Node) (C : List Int) : totalOf (mapP (pick s true) (mapP (hideG s) N C).1 (mapP (hideG s) N C).2).1 (mapP (pick s true) (mapP (hideG s) N C).1 (mapP (hideG s) N C).2).2 = 0 := by
  have h1 : (entriesOf (mapP (hideG s) N C).1 (mapP (hideG s) N C).2).filter (keepS s true) = [] := by
    rw [List.filter_eq_nil_iff]
    intro e he
    obtain ⟨x, _, hf⟩ := mapP_frs (hideG_fine s) he
    have := hide_no s (frsE x)
    unfold keepS
    rw [hf]
    simp only [beq_iff_eq, decide_eq_true_eq]
    simp; omega
  rw [← sumE_entries, pick_back, h1]; rfl
end Go.Proofs.YtahcfcimfcjhhaaGreatDoor

/-
  DERIVED. Plain lists: profiles as they are drawn: few stacks, each begins with main, and only there.
-/
namespace Go.Proofs.YtahcfcimfcjhhaaGreatDoor
set_option linter.unusedVariables false
open Go.Pl
def nMain : ByteArray := ⟨#[109, 97, 105, 110]⟩
structure Drawn (F : List Frame) : Prop where
  ok : F.all frOk = true
  head : ∃ f R, F = f :: R ∧ f.name = nMain ∧ ∀ x ∈ R, x.name ≠ nMain
  len : F.length ≤ 4
structure DrP (P : List Node × List Int) (n : Nat) : Prop where
  ok : profileOk P.1 P.2 = true
  sum : P.2.sum ≤ 40 * n
  len : P.1.length ≤ 4 * n
  ents : ∀ e ∈ entriesOf P.1 P.2, Drawn (frsE e)
theorem DrP.nil : DrP ([], []) 0 := ⟨nilOk, by simp, by simp, fun e he => by rw [ents_nil] at he; cases he⟩
theorem Drawn.ne {F : List Frame} (h : Drawn F) : F ≠ [] := by obtain ⟨f, R, e, _⟩ := h.head; rw [e]; simp
theorem DrP.add {P : List Node × List Int} {n : Nat} (h : DrP P n) (hn : n ≤ 100) {F : List Frame} (hF : Drawn F) {c : Int} (c0 : 0 < c) (c1 : c ≤ 40) : (addStack P.1 P.2 F c).2 = true ∧ DrP (addStack P.1 P.2 F c).1 (n + 1) := by
  have hs := h.sum
  obtain ⟨a1, a2, a3⟩ := addStack_total (n := c) h.ok hF.ne hF.ok (by omega) (by omega)
  refine ⟨a1, a3, by rw [a2]; omega, ?_, fun e he => ?_⟩
  · have h1 := (addStack_len P.1 P.2 F c).1
    have h2 := h.len
    have h3 := hF.len
    omega
  · have hr : Rep' (entriesOf P.1 P.2) ((entriesOf P.1 P.2).foldl (fun f e => updF f e.stack e.count) fun _ => none) := by
      have := fold_rep (entriesOf P.1 P.2) [] _ Rep'.nil (by simpa using asc_apart entries_asc)
      simpa using this
    have hm := (addStack_rep h.ok hF.ne hF.ok c0 a1 hr).mem e
    have h1 := hm.1 he
    unfold updF at h1
    split at h1
    · rename_i hst
      have : frsE e = F := by unfold frsE; rw [hst, parseF_fmtF hF.ok hF.ne]; rfl
      rw [this]; exact hF
    · exact h.ents e ((hr.mem e).2 h1)
theorem Drawn.has {e : Entry} (h : Drawn (frsE e)) : nMain ∈ namesE e := by
  obtain ⟨f, R, h1, h2, _⟩ := h.head
  unfold namesE
  rw [h1, List.map_cons, h2]
  exact List.mem_cons_self
theorem Drawn.only {e : Entry} (h : Drawn (frsE e)) : ∀ j, 0 < j → j < (namesE e).length → (namesE e).getD j ⟨#[]⟩ ≠ nMain := by
  obtain ⟨f, R, h1, h2, h3⟩ := h.head
  intro j hj hl
  obtain ⟨i, rfl⟩ : ∃ i, j = i + 1 := ⟨j - 1, by omega⟩
  unfold namesE at hl ⊢
  rw [h1, List.map_cons] at hl ⊢
  have hi : i < (R.map (·.name)).length := by simpa using hl
  have h4 : (f.name :: R.map (·.name)).getD (i + 1) ⟨#[]⟩ = (R.map (·.name))[i] := by
    rw [List.getD_eq_getElem?_getD, List.getElem?_cons_succ, List.getElem?_eq_getElem hi]; rfl
  rw [h4]
  obtain ⟨x, hx, he⟩ := List.mem_map.1 (List.getElem_mem hi)
  rw [← he]
  exact h3 x hx
/-- a name that is not main can be hidden: no stack vanishes -/
theorem Drawn.hide {F : List Frame} (h : Drawn F) {s : ByteArray} (hs : s ≠ nMain) : hideG s F ≠ [] := by
  obtain ⟨f, R, h1, h2, _⟩ := h.head
  unfold hideG
  rw [h1, List.filter_cons]
  have : (!hasName s f) = true := by
    simp only [hasName, h2, Bool.not_eq_true', decide_eq_false_iff_not]
    exact fun e => hs e.symm
  rw [this]; simp
theorem Drawn.top {F : List Frame} (h : Drawn F) {n : Int} (hn : 1 ≤ n) : topF n F ≠ [] := by
  obtain ⟨f, R, h1, _⟩ := h.head
  unfold topF
  obtain ⟨m, hm⟩ : ∃ m, n.toNat = m + 1 := ⟨n.toNat - 1, by omega⟩
  rw [h1, hm, List.take_succ_cons]; simp
/-- no text of a stack has a line's end in it is for VpText: counts are small -/
theorem DrP.total {P : List Node × List Int} {n : Nat} (h : DrP P n) : totalOf P.1 P.2 ≤ 40 * n := by
  unfold totalOf
  rw [if_pos h.ok]; exact h.sum
end Go.Proofs.YtahcfcimfcjhhaaGreatDoor

/-
  DERIVED. A region with a fixed order, in which an operation that is not wanted may be taken to yield anything.
-/
namespace Go.Vc
set_option linter.unusedVariables false
def St.stepO (tys : List (Nat × TyD)) (C : List (FuncId × Ctr)) (N : Nat) (ops : Array Oper) (o : Oper) (st : St) (K : St → Prop) : Prop :=
  match o.guard with
  | none => st.step tys C N ops o K
  | some (j, want) => match (ops[j]?).bind (·.dst) with
    | some t => match guardB want (st.get t) with
      | some false => dstOk N o.dst = true ∧ K (st.put o.dst (.cond false (offV tys o)))
      | _ => st.step tys C N ops o K
    | none => False
def St.runO (tys : List (Nat × TyD)) (C : List (FuncId × Ctr)) (N : Nat) (ops : Array Oper) : List Oper → St → (St → Prop) → Prop
  | [], st, K => K st
  | o :: l, st, K => st.stepO tys C N ops o fun st' => St.runO tys C N ops l st' K
section
variable {P : Program} {tys : List (Nat × TyD)} {C : List (FuncId × Ctr)} {N : Nat} {X0 : Nat → Prop} {M : Nat → Value → Prop} {w0 : World} {st : St} {β : Nat → Value} {a : Act} {w : World}
theorem wanted_eq (h : Sim N X0 M w0 st β a w) {ops : Array Oper} {o : Oper} {j t : Nat} {want g : Bool} (hg : o.guard = some (j, want)) (ht : (ops[j]?).bind (·.dst) = some t) (hc : guardB want (st.get t) = some g) : Region.wanted o (yielded ops a.tmps) = g := by
  have hR : R w (XX X0 β st.hp) β (st.get t) (a.eval (.tmp t)) := St.ev_ok h (.tmp t)
  have hy : yielded ops a.tmps j = (match a.tmps.getD t undef with | .bool b => some b | _ => none) := by
    unfold yielded
    rw [ht]
    simp only [Option.bind_some]
    rw [Array.getD_eq_getD_getElem?]
    cases hq : a.tmps[t]? with
    | none => rfl
    | some v => cases v <;> rfl
  simp only [Region.wanted, hg, hy]
  generalize st.get t = y at hc hR
  unfold guardB at hc
  split at hc
  · rename_i b
    have hv : a.tmps.getD t undef = .bool b := hR.v_inv
    rw [hv]
    cases hc
    cases b <;> cases want <;> rfl
  · rename_i g' b
    cases hc
    cases g' with
    | false =>
      have hv : a.tmps.getD t undef = undef := hR.cond_undef rfl
      rw [hv]; rfl
    | true =>
      have hv : a.tmps.getD t undef = .bool b := (hR.cond_inv rfl).v_inv
      rw [hv]
      cases b <;> cases want <;> rfl
  · cases hc
theorem stepO_sound (hA : Ap P X0 M w0) (hty : ∀ T d, lk T tys = some d → TyOk P T d) (hC : COk P C) (h : Sim N X0 M w0 st β a w) {ops : Array Oper} {o : Oper} {K : St → Prop} (hw : st.stepO tys C N ops o K) {Q : Exit → Act → World → Prop} :
    if Region.wanted o (yielded ops a.tmps) then o.wp P a w (Ok N X0 M w0 K) Q else Ok N X0 M w0 K (a.put o.dst undef) w := by
  unfold St.stepO at hw
  cases hg : o.guard with
  | none => rw [hg] at hw; exact step_sound hA hty hC h hw
  | some gw =>
    obtain ⟨j, want⟩ := gw
    rw [hg] at hw
    simp only at hw
    split at hw
    case h_2 => exact hw.elim
    case h_1 _ t ht =>
      split at hw
      case h_2 => exact step_sound hA hty hC h hw
      case h_1 _ hc =>
        have hwt := wanted_eq h hg ht hc
        rw [hwt, if_neg (by simp)]
        obtain ⟨hd, hK⟩ := hw
        cases hdd : o.dst with
        | none => rw [hdd] at hK; exact ⟨_, β, hK, h⟩
        | some d => rw [hdd] at hK hd; exact ⟨_, β, hK, h.put (by simpa [dstOk] using hd) (.cond (fun hh => by cases hh) fun _ => rfl)⟩
theorem runO_sound (hA : Ap P X0 M w0) (hty : ∀ T d, lk T tys = some d → TyOk P T d) (hC : COk P C) {ops : Array Oper} {K : St → Prop} {Q : Exit → Act → World → Prop} (hQ : ∀ a w, Ok N X0 M w0 K a w → Q .normal a w) :
    ∀ (l : List Oper) {st : St} {β : Nat → Value} {a : Act} {w : World}, Sim N X0 M w0 st β a w → St.runO tys C N ops l st K → wpList P ops Q l a w
  | [], st, β, a, w, h, hw => hQ a w ⟨st, β, hw, h⟩
  | o :: l, st, β, a, w, h, hw => by
    have h1 := stepO_sound (Q := Q) hA hty hC h hw
    unfold wpList
    split
    · rename_i hwt
      rw [if_pos hwt] at h1
      exact .inl (Oper.wp_mono (fun a' w' ⟨st', β', h2, h3⟩ => runO_sound hA hty hC hQ l h3 h2) h1)
    · rename_i hwt
      rw [if_neg hwt] at h1
      obtain ⟨st', β', h2, h3⟩ := h1
      exact runO_sound hA hty hC hQ l h3 h2
end
section
variable {c : Cx} {N : Nat} {X0 : Nat → Prop} {M : Nat → Value → Prop} {w0 : World} {st : St} {K : Exit → St → Prop}
theorem WP.regionO {id : Nat} {l : List Oper} (h : St.runO c.tys c.C N l.toArray l st (K .normal)) : WP c N X0 M w0 (.region id l.toArray false) st K := fun hA β a w hs =>
  wp_region_lit (runO_sound hA c.hty c.hC (fun a w hk => hk) l hs h)
end
/-! ## sums and products that wrap -/
def wrapI (op : BinOp) (a b : Int) : Int := match op with
  | .add => IntKind.i64.wrap (a + b)
  | .sub => IntKind.i64.wrap (a - b)
  | .mul => IntKind.i64.wrap (a * b)
  | _ => 0
def isArith : BinOp → Bool
  | .add => true
  | .sub => true
  | .mul => true
  | _ => false
def St.stepWr (tys : List (Nat × TyD)) (C : List (FuncId × Ctr)) (N : Nat) (ops : Array Oper) (o : Oper) (st : St) (K : St → Prop) : Prop :=
  match o.op with
  | .binOp op T x y U => match st.ev x, st.ev y with
    | .v (.int .i64 a), .v (.int .i64 b) => if isArith op = true ∧ o.guard.isNone = true then dstOk N o.dst = true ∧ K (st.put o.dst (.v (.int .i64 (wrapI op a b)))) else st.step tys C N ops o K
    | _, _ => st.step tys C N ops o K
  | _ => st.step tys C N ops o K
def St.runWr (tys : List (Nat × TyD)) (C : List (FuncId × Ctr)) (N : Nat) (ops : Array Oper) : List Oper → St → (St → Prop) → Prop
  | [], st, K => K st
  | o :: l, st, K => st.stepWr tys C N ops o fun st' => St.runWr tys C N ops l st' K
theorem wrap_run {P : Program} {op : BinOp} {T : Nat} {a b : Int} (h : isArith op = true) (ox oy : Operand) (w : World) :
    (do eqGuard op T ox oy (.int .i64 a) (.int .i64 b); binOp op T (.int .i64 a) (.int .i64 b) : Sem Value).run P w = .ok (.int .i64 (wrapI op a b)) w := by
  cases op <;> first | (cases h; done) | simp [eqGuard, binOp, Op.intArith, wrapI]
section
variable {P : Program} {tys : List (Nat × TyD)} {C : List (FuncId × Ctr)} {N : Nat} {X0 : Nat → Prop} {M : Nat → Value → Prop} {w0 : World} {st : St} {β : Nat → Value} {a : Act} {w : World}
theorem stepWr_sound (hA : Ap P X0 M w0) (hty : ∀ T d, lk T tys = some d → TyOk P T d) (hC : COk P C) (h : Sim N X0 M w0 st β a w) {ops : Array Oper} {o : Oper} {K : St → Prop} (hw : st.stepWr tys C N ops o K) {Q : Exit → Act → World → Prop} :
    if Region.wanted o (yielded ops a.tmps) then o.wp P a w (Ok N X0 M w0 K) Q else Ok N X0 M w0 K (a.put o.dst undef) w := by
  unfold St.stepWr at hw
  split at hw
  case h_2 => exact step_sound hA hty hC h hw
  case h_1 _ op T x y U ho =>
    split at hw
    case h_2 => exact step_sound hA hty hC h hw
    case h_1 _ _ p q hx hy =>
      split at hw
      case isFalse => exact step_sound hA hty hC h hw
      case isTrue hc =>
        obtain ⟨h1, h2⟩ := hc
        obtain ⟨hd, hK⟩ := hw
        have hg : o.guard = none := by simpa using h2
        have hwt : Region.wanted o (yielded ops a.tmps) = true := by simp [Region.wanted, hg]
        rw [if_pos hwt]
        have e1 : a.eval x = .int .i64 p := (hx ▸ St.ev_ok h x : R w _ β (.v (.int .i64 p)) (a.eval x)).v_inv
        have e2 : a.eval y = .int .i64 q := (hy ▸ St.ev_ok h y : R w _ β (.v (.int .i64 q)) (a.eval y)).v_inv
        have hr := wrap_run (P := P) (T := T) (a := p) (b := q) h1 x y w
        refine wp_of_Yl h hd ⟨.int .i64 (wrapI op p q), ?_, .p (.v _)⟩ hK
        simp only [Sem.run_bind] at hr
        simp only [execOp, ho, e1, e2, Sem.run_bind, hr, Result.andThen_ok, Sem.run_pure]
theorem runWr_sound (hA : Ap P X0 M w0) (hty : ∀ T d, lk T tys = some d → TyOk P T d) (hC : COk P C) {ops : Array Oper} {K : St → Prop} {Q : Exit → Act → World → Prop} (hQ : ∀ a w, Ok N X0 M w0 K a w → Q .normal a w) :
    ∀ (l : List Oper) {st : St} {β : Nat → Value} {a : Act} {w : World}, Sim N X0 M w0 st β a w → St.runWr tys C N ops l st K → wpList P ops Q l a w
  | [], st, β, a, w, h, hw => hQ a w ⟨st, β, hw, h⟩
  | o :: l, st, β, a, w, h, hw => by
    have h1 := stepWr_sound (Q := Q) hA hty hC h hw
    unfold wpList
    split
    · rename_i hwt
      rw [if_pos hwt] at h1
      exact .inl (Oper.wp_mono (fun a' w' ⟨st', β', h2, h3⟩ => runWr_sound hA hty hC hQ l h3 h2) h1)
    · rename_i hwt
      rw [if_neg hwt] at h1
      obtain ⟨st', β', h2, h3⟩ := h1
      exact runWr_sound hA hty hC hQ l h3 h2
end
section
variable {c : Cx} {N : Nat} {X0 : Nat → Prop} {M : Nat → Value → Prop} {w0 : World} {st : St} {K : Exit → St → Prop}
theorem WP.regionWr {id : Nat} {l : List Oper} (h : St.runWr c.tys c.C N l.toArray l st (K .normal)) : WP c N X0 M w0 (.region id l.toArray false) st K := fun hA β a w hs =>
  wp_region_lit (runWr_sound hA c.hty c.hC (fun a w hk => hk) l hs h)
end
end Go.Vc

/-
  DERIVED. What is drawn, in plain Lean: the cursor over the bytes of a draw; the numbers, stacks and profiles that come from it.
-/
namespace Go.Proofs.YtahcfcimfcjhhaaGreatDoor
set_option linter.unusedVariables false
open Go.Pl Go.Vc
structure Cur where
  b : List Int
  i : Int
  h : Int
def encU (z : Int) : List SV := [.v (.int .u8 z)]
def decU (rows : List (List SV)) : List Int := rows.map fun r => match r with
  | [.v (.int _ z)] => z
  | _ => 0
theorem decU_enc (L : List Int) : decU (L.map encU) = L := by
  unfold decU
  rw [List.map_map]
  exact List.map_id'' (fun _ => rfl) L
def encCur (c : Cur) : List SV := [.sl 1 (c.b.map encU), .v (.int .i64 c.i), .v (.int .i64 c.h)]
def decCur : List SV → Cur
  | [.sl _ rows, .v (.int _ i), .v (.int _ h)] => ⟨decU rows, i, h⟩
  | _ => ⟨[], 0, 0⟩
theorem decCur_enc (c : Cur) : decCur (encCur c) = c := by
  obtain ⟨b, i, h⟩ := c
  simp only [encCur, decCur, decU_enc]
theorem decCur_abc (b : List Int) (i h : Int) : decCur [.sl 1 (b.map encU), .v (.int .i64 i), .v (.int .i64 h)] = ⟨b, i, h⟩ := decCur_enc ⟨b, i, h⟩
theorem and255 (a : Int) : 0 ≤ bitAnd .i64 a 255 ∧ bitAnd .i64 a 255 ≤ 255 := by
  unfold bitAnd
  have h1 : (BitVec.ofInt IntKind.i64.bits a &&& BitVec.ofInt IntKind.i64.bits 255).toNat ≤ 255 := by
    rw [BitVec.toNat_and]
    exact Nat.le_trans Nat.and_le_right (by decide)
  generalize (BitVec.ofInt IntKind.i64.bits a &&& BitVec.ofInt IntKind.i64.bits 255).toNat = n at h1
  rw [show IntKind.i64.wrap (n : Int) = n from IntWalk.i64_in _ ⟨by omega, by omega⟩]
  omega
def stepH (h : Int) : Int := wrapI .add (wrapI .mul h 6364136223846793005) 1442695040888963407
def rawX (h : Int) : Int := bitAnd .i64 (bitXor .i64 (shR .i64 h 33) (shR .i64 h 45)) 255
def byteV (c : Cur) : Int := if c.i < c.b.length then bitAnd .i64 (rawX (stepH c.h) + c.b.getD c.i.toNat 0) 255 else rawX (stepH c.h)
def byteC (c : Cur) : Cur := ⟨c.b, if c.i < c.b.length then c.i + 1 else c.i, stepH c.h⟩
theorem byteV_bd (c : Cur) : 0 ≤ byteV c ∧ byteV c ≤ 255 := by
  unfold byteV
  split
  · exact and255 _
  · exact and255 _
structure CurOk (c : Cur) : Prop where
  len : c.b.length ≤ 1048576
  byt : ∀ z ∈ c.b, 0 ≤ z ∧ z ≤ 255
  lo : 0 ≤ c.i
  hi : c.i ≤ c.b.length
theorem CurOk.byteC {c : Cur} (h : CurOk c) : CurOk (byteC c) := by
  obtain ⟨h1, h2, h3, h4⟩ := h
  refine ⟨h1, h2, ?_, ?_⟩
  · show 0 ≤ (if c.i < c.b.length then c.i + 1 else c.i)
    split <;> omega
  · show (if c.i < c.b.length then c.i + 1 else c.i) ≤ c.b.length
    split <;> omega
/-- a number below n, for n up to 256 -/
def belowV (c : Cur) (n : Int) : Int := if n ≤ 0 then 0 else (byteV c).tmod n
def belowC (c : Cur) (n : Int) : Cur := if n ≤ 0 then c else byteC c
theorem CurOk.belowC {c : Cur} (h : CurOk c) (n : Int) : CurOk (belowC c n) := by
  unfold Go.Proofs.YtahcfcimfcjhhaaGreatDoor.belowC
  split
  · exact h
  · exact h.byteC
theorem belowV_bd (c : Cur) {n : Int} (hn : 0 < n) : 0 ≤ belowV c n ∧ belowV c n < n := by
  have h := byteV_bd c
  unfold belowV
  rw [if_neg (by omega), Int.tmod_eq_emod_of_nonneg h.1]
  exact ⟨Int.emod_nonneg _ (by omega), Int.emod_lt_of_pos _ hn⟩
/-! ## a stack -/
def nF : ByteArray := ⟨#[102]⟩
def nGg : ByteArray := ⟨#[103, 103]⟩
def nH : ByteArray := ⟨#[104]⟩
def nmAt (i : Int) : ByteArray := if i = 0 then nF else if i = 1 then nGg else nH
def frD (c : Cur) : Frame := ⟨nmAt (belowV c 3), 4 + belowV (belowC c 3) 3⟩
def stkGo : Nat → Cur → List Frame → List Frame × Cur
  | 0, c, L => (L, c)
  | k + 1, c, L => stkGo k (belowC (belowC c 3) 3) (L ++ [frD c])
def stk0 (c : Cur) : List Frame := [⟨nMain, 1 + belowV c 3⟩]
def stkN (c : Cur) : Nat := (belowV (belowC c 3) 4).toNat
def stkD (c : Cur) : List Frame × Cur := stkGo (stkN c) (belowC (belowC c 3) 4) (stk0 c)
theorem stkGo_ok : ∀ (k : Nat) (c : Cur) (L : List Frame), CurOk c → CurOk (stkGo k c L).2 ∧ (stkGo k c L).1.length = L.length + k
  | 0, c, L, h => ⟨h, rfl⟩
  | k + 1, c, L, h => by
    obtain ⟨h1, h2⟩ := stkGo_ok k (Go.Proofs.YtahcfcimfcjhhaaGreatDoor.belowC (Go.Proofs.YtahcfcimfcjhhaaGreatDoor.belowC c 3) 3) (L ++ [frD c]) ((h.belowC 3).belowC 3)
    exact ⟨h1, by rw [stkGo, h2, List.length_append, List.length_singleton]; omega⟩
theorem nmAt_ok (i : Int) : nameOk (nmAt i) = true ∧ nmAt i ≠ nMain := by
  unfold nmAt
  split
  · exact ⟨by decide, by decide⟩
  · split <;> exact ⟨by decide, by decide⟩
theorem frD_ok (c : Cur) : frOk (frD c) = true ∧ (frD c).name ≠ nMain := by
  have h := belowV_bd (Go.Proofs.YtahcfcimfcjhhaaGreatDoor.belowC c 3) (n := 3) (by omega)
  refine ⟨frOk_iff.2 ⟨(nmAt_ok _).1, ?_, ?_⟩, (nmAt_ok _).2⟩
  · show (0 : Int) ≤ 4 + _; omega
  · show 4 + belowV (belowC c 3) 3 ≤ 59; omega
theorem stkGo_drawn : ∀ (k : Nat) (c : Cur) (L : List Frame), L.all frOk = true → (∃ f R, L = f :: R ∧ f.name = nMain ∧ ∀ x ∈ R, x.name ≠ nMain) → (stkGo k c L).1.all frOk = true ∧ ∃ f R, (stkGo k c L).1 = f :: R ∧ f.name = nMain ∧ ∀ x ∈ R, x.name ≠ nMain
  | 0, c, L, h1, h2 => ⟨h1, h2⟩
  | k + 1, c, L, h1, h2 => by
    refine stkGo_drawn k _ _ ?_ ?_
    · rw [List.all_append, h1]; simp [(frD_ok c).1]
    · obtain ⟨f, R, rfl, h3, h4⟩ := h2
      refine ⟨f, R ++ [frD c], rfl, h3, fun x hx => ?_⟩
      rcases List.mem_append.1 hx with h | h
      · exact h4 x h
      · rw [List.mem_singleton] at h
        rw [h]; exact (frD_ok c).2
theorem stkN_le (c : Cur) : stkN c ≤ 3 := by
  have := belowV_bd (Go.Proofs.YtahcfcimfcjhhaaGreatDoor.belowC c 3) (n := 4) (by omega)
  unfold stkN; omega
theorem stkD_drawn (c : Cur) (h : CurOk c) : Drawn (stkD c).1 ∧ CurOk (stkD c).2 := by
  have hb := belowV_bd c (n := 3) (by omega)
  have h0 : (stk0 c).all frOk = true := by
    unfold stk0
    rw [List.all_cons, List.all_nil, Bool.and_true]
    refine frOk_iff.2 ⟨show nameOk nMain = true by decide, ?_, ?_⟩
    · show (0 : Int) ≤ 1 + _; omega
    · show 1 + belowV c 3 ≤ 59; omega
  obtain ⟨h1, h2⟩ := stkGo_drawn (stkN c) (Go.Proofs.YtahcfcimfcjhhaaGreatDoor.belowC (Go.Proofs.YtahcfcimfcjhhaaGreatDoor.belowC c 3) 4) (stk0 c) h0 ⟨_, [], rfl, rfl, by simp⟩
  obtain ⟨h3, h4⟩ := stkGo_ok (stkN c) (Go.Proofs.YtahcfcimfcjhhaaGreatDoor.belowC (Go.Proofs.YtahcfcimfcjhhaaGreatDoor.belowC c 3) 4) (stk0 c) ((h.belowC 3).belowC 4)
  refine ⟨⟨h1, h2, ?_⟩, h3⟩
  have := stkN_le c
  show (stkGo _ _ _).1.length ≤ 4
  rw [h4]
  show 1 + _ ≤ 4
  omega
theorem stkGo_next (k : Nat) (c : Cur) (L : List Frame) : stkGo (k + 1) c L = ((stkGo k c L).1 ++ [frD (stkGo k c L).2], belowC (belowC (stkGo k c L).2 3) 3) := by
  induction k generalizing c L with
  | zero => rfl
  | succ k ih => rw [stkGo, ih, stkGo]
/-! ## a profile -/
def cntAt (i : Int) : Int := if i ≤ 1 then 1 else if i = 2 then 2 else if i = 3 then 5 else 40
def prStep (s : (List Node × List Int) × Cur) : (List Node × List Int) × Cur :=
  ((addStack s.1.1 s.1.2 (stkD s.2).1 (cntAt (belowV (stkD s.2).2 5))).1, belowC (stkD s.2).2 5)
def prGo : Nat → (List Node × List Int) × Cur → (List Node × List Int) × Cur
  | 0, s => s
  | k + 1, s => prStep (prGo k s)
def prN (c : Cur) : Nat := (belowV c 8).toNat
def prD (c : Cur) : (List Node × List Int) × Cur := prGo (prN c) (([], []), belowC c 8)
theorem cntAt_bd (i : Int) : 0 < cntAt i ∧ cntAt i ≤ 40 := by
  unfold cntAt
  split
  · omega
  · split
    · omega
    · split <;> omega
theorem prGo_ok (c : Cur) (h : CurOk c) : ∀ k, k ≤ 100 → DrP (prGo k (([], []), c)).1 k ∧ CurOk (prGo k (([], []), c)).2
  | 0, _ => ⟨DrP.nil, h⟩
  | k + 1, hk => by
    obtain ⟨h1, h2⟩ := prGo_ok c h k (by omega)
    obtain ⟨h3, h4⟩ := stkD_drawn _ h2
    have h5 := cntAt_bd (belowV (stkD (prGo k (([], []), c)).2).2 5)
    exact ⟨(h1.add (by omega) h3 h5.1 h5.2).2, h4.belowC 5⟩
theorem prN_le (c : Cur) : prN c ≤ 7 := by
  have := belowV_bd c (n := 8) (by omega)
  unfold prN; omega
theorem DrP.more {P : List Node × List Int} {n m : Nat} (h : DrP P n) (hm : n ≤ m) : DrP P m := by
  have h1 := h.sum
  have h2 := h.len
  exact ⟨h.ok, by omega, by omega, h.ents⟩
theorem prD_ok (c : Cur) (h : CurOk c) : DrP (prD c).1 7 ∧ CurOk (prD c).2 := by
  have h1 := prN_le c
  obtain ⟨h2, h3⟩ := prGo_ok (Go.Proofs.YtahcfcimfcjhhaaGreatDoor.belowC c 8) (h.belowC 8) (prN c) (by omega)
  exact ⟨h2.more h1, h3⟩
/-! ## where it begins -/
def newH (b : List Int) : Nat → Int
  | 0 => 33147 + b.length
  | k + 1 => bitAnd .i64 (newH b k * 131 + b.getD k 0 + 7) 1073741823
def newN (b : List Int) : Nat := min b.length 4000
def newC (b : List Int) : Cur := ⟨b, 0, newH b (newN b)⟩
theorem newC_ok {b : List Int} (h1 : b.length ≤ 1048576) (h2 : ∀ z ∈ b, 0 ≤ z ∧ z ≤ 255) : CurOk (newC b) := ⟨h1, h2, Int.le_refl _, by show (0 : Int) ≤ b.length; omega⟩
theorem newH_bd {b : List Int} (h1 : b.length ≤ 1048576) : ∀ k, 0 ≤ newH b k ∧ newH b k ≤ 1073774874
  | 0 => by unfold newH; omega
  | k + 1 => by
    unfold newH
    unfold bitAnd
    have h1 : (BitVec.ofInt IntKind.i64.bits (newH b k * 131 + b.getD k 0 + 7) &&& BitVec.ofInt IntKind.i64.bits 1073741823).toNat ≤ 1073741823 := by
      rw [BitVec.toNat_and]
      exact Nat.le_trans Nat.and_le_right (by decide)
    generalize (BitVec.ofInt IntKind.i64.bits (newH b k * 131 + b.getD k 0 + 7) &&& BitVec.ofInt IntKind.i64.bits 1073741823).toNat = n at h1
    rw [show IntKind.i64.wrap (n : Int) = n from IntWalk.i64_in _ ⟨by omega, by omega⟩]
    omega
def drA (b : List Int) : List Node × List Int := (prD (newC b)).1
def drB (b : List Int) : List Node × List Int := (prD (prD (newC b)).2).1
theorem drA_ok {b : List Int} (h1 : b.length ≤ 1048576) (h2 : ∀ z ∈ b, 0 ≤ z ∧ z ≤ 255) : DrP (drA b) 7 := (prD_ok _ (newC_ok h1 h2)).1
end Go.Proofs.YtahcfcimfcjhhaaGreatDoor

/-
  DERIVED. As WP.flowW, the lists that are sliced there first given up as lists of one's own.
-/
namespace Go.Vc
def St.fzS : St → List Nat → St
  | st, [] => st
  | st, s :: l => ((st.fzL (st.ev (.tmp s)).strip.ownId)).fzS l
theorem Sim.fzS {P : Program} {X0 : Nat → Prop} {M : Nat → Value → Prop} {w0 : World} {N : Nat} {β : Nat → Value} {a : Act} {w : World} (hA : Ap P X0 M w0) : ∀ (l : List Nat) {st : St}, Sim N X0 M w0 st β a w → Sim N X0 M w0 (st.fzS l) β a w
  | [], _, h => h
  | _ :: l, _, h => Sim.fzS hA l (h.fzL hA _)
theorem WP.flowZ {c : Cx} {N : Nat} {X0 : Nat → Prop} {M : Nat → Value → Prop} {w0 : World} {K : Exit → St → Prop} {id : Nat} {l : List Oper} {st : St} (zs : List Nat) (m : Nat) (fl : List Fp) (ds mks gs : List Nat) (hB : flowB l.toArray m fl = true)
    (hD : ((List.range m).all fun k => match dstAt l.toArray k with | some d => ds.contains d | none => false) = true)
    (hM : ((List.range m).all fun k => ((fpAt fl k).mks.all fun d => mks.contains d) && ((fpAt fl k).gn.all fun d => gs.contains d)) = true) (hm : c.P.follows .mixedOrders = true)
    (h : St.runG c.tys c.C N l.toArray fl ((st.fzS zs).clean ds mks) (l.take m) 0 [] fun acc => St.runR c.tys c.C N l.toArray (l.drop m) (((st.fzS zs).clean ds mks).final acc gs) (K .normal)) : WP c N X0 M w0 (.region id l.toArray true) st K := by
  intro hA β a w hs
  exact WP.flowW m fl ds mks gs hB hD hM hm h hA β a w (hs.fzS hA zs)
end Go.Vc

