/-
  DERIVED. Plain lists: frames and their text.
-/
import Derived.Test.YtolnapfgfdgifaaDoorVtPU
import Derived.Test.YtolnapfgfdgifaaDoorVtName
import Derived.Test.YtolnapfgfdgifaaDoorVgNode
import Derived.Test.YtolnapfgfdgifaaDoorVpOrd
namespace Go.Proofs.YtolnapfgfdgifaaDoor
set_option linter.unusedVariables false

/-! ## texts joined and cut at a sign -/
def joinL (c : UInt8) : List (List UInt8) → List UInt8
  | [] => []
  | [x] => x
  | x :: y :: l => x ++ c :: joinL c (y :: l)
def cutL (c : UInt8) : List UInt8 → List (List UInt8)
  | [] => [[]]
  | b :: l => if b = c then [] :: cutL c l else match cutL c l with
    | [] => [[b]]
    | x :: xs => (b :: x) :: xs
theorem cutL_ne (c : UInt8) : ∀ l, cutL c l ≠ []
  | [] => by simp [cutL]
  | b :: l => by
    unfold cutL
    split
    · simp
    · split <;> simp
theorem cutL_plain (c : UInt8) : ∀ {l : List UInt8}, c ∉ l → cutL c l = [l]
  | [], _ => rfl
  | b :: l, h => by
    simp only [List.mem_cons, not_or] at h
    unfold cutL
    rw [if_neg (fun e => h.1 e.symm), cutL_plain c h.2]
theorem cutL_app (c : UInt8) : ∀ {x : List UInt8} (l : List UInt8), c ∉ x → cutL c (x ++ c :: l) = x :: cutL c l
  | [], l, _ => by rw [List.nil_append, cutL, if_pos rfl]
  | b :: x, l, h => by
    simp only [List.mem_cons, not_or] at h
    rw [List.cons_append, cutL, if_neg (fun e => h.1 e.symm), cutL_app c l h.2]
theorem cutL_join (c : UInt8) : ∀ {L : List (List UInt8)}, L ≠ [] → (∀ x ∈ L, c ∉ x) → cutL c (joinL c L) = L
  | [x], _, h => by rw [joinL]; exact cutL_plain c (h x (by simp))
  | x :: y :: l, _, h => by
    rw [joinL, cutL_app c _ (h x (by simp)), cutL_join c (by simp) (fun z hz => h z (List.mem_cons_of_mem _ hz))]
theorem joinL_snoc (c : UInt8) : ∀ (L : List (List UInt8)) (x : List UInt8), joinL c (L ++ [x]) = if L = [] then x else joinL c L ++ c :: x
  | [], x => rfl
  | [y], x => by simp [joinL]
  | y :: z :: l, x => by
    have ih := joinL_snoc c (z :: l) x
    rw [if_neg (by simp)] at ih ⊢
    show joinL c (y :: z :: (l ++ [x])) = _
    rw [joinL, show z :: (l ++ [x]) = (z :: l) ++ [x] from rfl, ih, joinL]
    simp

/-! ## frames -/
def frOk (f : Frame) : Bool := nameOk f.name && decide (0 ≤ f.line) && decide (f.line ≤ 59)
theorem frOk_iff {f : Frame} : frOk f = true ↔ nameOk f.name = true ∧ 0 ≤ f.line ∧ f.line ≤ 59 := by simp [frOk, and_assoc]
def frTxt (f : Frame) : List UInt8 := f.name.data.toList ++ 58 :: fmtL f.line.toNat
def fmtF (L : List Frame) : ByteArray := if L.all frOk = true then bts (joinL 59 (L.map frTxt)) else ⟨#[]⟩
def partF (p : List UInt8) : Option Frame := match cutL 58 p with
  | [n, d] => Option.map (fun (v : Nat) => (⟨bts n, (v : Int)⟩ : Frame)) (parseU (bts d))
  | _ => none
def parseF (s : ByteArray) : Option (List Frame) := match (cutL 59 s.data.toList).mapM partF with
  | some L => if s.size ≠ 0 ∧ fmtF L = s then some L else none
  | none => none

theorem nameOk_letters {s : ByteArray} (h : nameOk s = true) : (∀ c ∈ s.data.toList, 97 ≤ c.toNat ∧ c.toNat ≤ 122) ∧ 1 ≤ s.size ∧ s.size ≤ 8 := by
  simp only [nameOk, Bool.and_eq_true, decide_eq_true_eq, List.all_eq_true] at h
  exact ⟨fun c hc => by have := h.1.1 c hc; simpa [letter] using this, h.1.2, h.2⟩
theorem decB_dig : ∀ (n k : Nat), k ≤ n → ∀ c ∈ decB k, 48 ≤ c.toNat ∧ c.toNat ≤ 57
  | 0, k, hk, c, hc => by
    have : k = 0 := by omega
    subst this; simp [decB] at hc
  | n + 1, k, hk, c, hc => by
    rcases Nat.eq_zero_or_pos k with h0 | h0
    · subst h0; simp [decB] at hc
    · rw [decB_pos k h0, List.mem_append] at hc
      rcases hc with hc | hc
      · exact decB_dig n (k / 10) (by omega) c hc
      · simp only [List.mem_cons, List.not_mem_nil, or_false] at hc
        subst hc
        have : (UInt8.ofNat (48 + k % 10)).toNat = 48 + k % 10 := by simp [UInt8.toNat_ofNat']; omega
        omega
theorem fmtL_dig (k : Nat) : ∀ c ∈ fmtL k, 48 ≤ c.toNat ∧ c.toNat ≤ 57 := by
  intro c hc
  unfold fmtL at hc
  split at hc
  · simp only [List.mem_cons, List.not_mem_nil, or_false] at hc; subst hc; decide
  · exact decB_dig k k (Nat.le_refl _) c hc
theorem fmtL_ne (k : Nat) : fmtL k ≠ [] := by
  unfold fmtL
  split
  · simp
  · rename_i h; rw [decB_pos k (by omega)]; simp
theorem decB_valL_id : ∀ (n k : Nat), k ≤ n → valL (decB k) = k
  | 0, k, hk => by
    have : k = 0 := by omega
    subst this; simp [decB, valL]
  | n + 1, k, hk => by
    rcases Nat.eq_zero_or_pos k with h0 | h0
    · subst h0; simp [decB, valL]
    · rw [decB_pos k h0, valL_snoc, decB_valL_id n (k / 10) (by omega)]
      have : (UInt8.ofNat (48 + k % 10)).toNat = 48 + k % 10 := by simp [UInt8.toNat_ofNat']; omega
      omega
theorem valL_fmtL (k : Nat) : valL (fmtL k) = k := by
  unfold fmtL
  split
  · rename_i h; subst h; simp [valL]
  · exact decB_valL_id k k (Nat.le_refl _)
theorem fmtL_len (n k : Nat) (h : k < 10 ^ n) (hn : 0 < n) : (fmtL k).length ≤ n := by
  unfold fmtL
  split
  · simp only [List.length_cons, List.length_nil]; omega
  · exact decB_len n k h
/-- a number's text is read as that number -/
theorem parseU_fmtL (k : Nat) (h : k ≤ 1000000000) : parseU (bts (fmtL k)) = some k := by
  have hd : (fmtL k).all dig = true := by
    rw [List.all_eq_true]
    intro c hc
    exact dig_iff.2 (fmtL_dig k c hc)
  have hl : (bts (fmtL k)).data.toList = fmtL k := by simp [bts]
  have hv : valN (bts (fmtL k)) (bts (fmtL k)).size = k := by rw [valN_all, hl, valL_fmtL]
  have hsz := bts_size (fmtL k)
  have hlen := fmtL_len 10 k (by omega) (by omega)
  have hne := fmtL_ne k
  have h1 := fmtL_valL (fmtL k) hd
  rw [valL_fmtL] at h1
  have h2 := h1.1 rfl
  unfold parseU
  rw [if_pos, hv]
  refine ⟨fun e => hne (List.eq_nil_of_length_eq_zero (by omega)), by omega, fun ⟨a, b⟩ => h2.2 ⟨by omega, ?_⟩, by rw [hl]; exact hd, by rw [hv]; exact h⟩
  have := head_get (bts (fmtL k)) (by omega)
  rw [hl, b] at this
  exact this
theorem frTxt_no59 {f : Frame} (h : frOk f = true) : (59 : UInt8) ∉ frTxt f := by
  intro hc
  obtain ⟨h1, _⟩ := frOk_iff.1 h
  unfold frTxt at hc
  rcases List.mem_append.1 hc with hc | hc
  · have := (nameOk_letters h1).1 _ hc
    have e : (59 : UInt8).toNat = 59 := rfl
    omega
  · rcases List.mem_cons.1 hc with hc | hc
    · exact absurd hc (by decide)
    · have := fmtL_dig _ _ hc
      have e : (59 : UInt8).toNat = 59 := rfl
      omega
theorem partF_txt {f : Frame} (h : frOk f = true) : partF (frTxt f) = some f := by
  obtain ⟨h1, h2, h3⟩ := frOk_iff.1 h
  have hn : (58 : UInt8) ∉ f.name.data.toList := fun hc => by
    have := (nameOk_letters h1).1 _ hc
    have e : (58 : UInt8).toNat = 58 := rfl
    omega
  have hd : (58 : UInt8) ∉ fmtL f.line.toNat := fun hc => by
    have := fmtL_dig _ _ hc
    have e : (58 : UInt8).toNat = 58 := rfl
    omega
  unfold partF frTxt
  rw [cutL_app 58 _ hn, cutL_plain 58 hd]
  simp only
  rw [parseU_fmtL _ (by omega), bts_list]
  obtain ⟨name, line⟩ := f
  simp only at h2 ⊢
  rw [Option.map_some]
  congr 2
  omega
theorem mapM_partF : ∀ {L : List Frame}, L.all frOk = true → (L.map frTxt).mapM partF = some L
  | [], _ => rfl
  | f :: L, h => by
    simp only [List.all_cons, Bool.and_eq_true] at h
    simp [partF_txt h.1, mapM_partF h.2]
theorem frTxt_len {f : Frame} (h : frOk f = true) : 3 ≤ (frTxt f).length ∧ (frTxt f).length ≤ 11 := by
  obtain ⟨h1, h2, h3⟩ := frOk_iff.1 h
  have hn := nameOk_letters h1
  have hl := fmtL_len 2 f.line.toNat (by omega) (by omega)
  have hp := List.length_pos_iff.2 (fmtL_ne f.line.toNat)
  unfold frTxt
  have : f.name.data.toList.length = f.name.size := by simp
  simp only [List.length_append, List.length_cons]
  omega
theorem joinL_len : ∀ (L : List (List UInt8)) (n : Nat), (∀ x ∈ L, x.length ≤ n) → (joinL 59 L).length ≤ (n + 1) * L.length
  | [], n, _ => by simp [joinL]
  | [x], n, h => by have := h x (by simp); simp only [joinL, List.length_cons, List.length_nil]; omega
  | x :: y :: l, n, h => by
    have ih := joinL_len (y :: l) n fun z hz => h z (List.mem_cons_of_mem _ hz)
    have := h x (by simp)
    simp only [joinL, List.length_append, List.length_cons] at ih ⊢
    have e : (n + 1) * (l.length + 1 + 1) = (n + 1) * (l.length + 1) + (n + 1) := by rw [Nat.mul_add]; omega
    omega
theorem fmtF_size (L : List Frame) : (fmtF L).size ≤ 12 * L.length := by
  unfold fmtF
  split
  · rename_i h
    rw [bts_size]
    have := joinL_len (L.map frTxt) 11 (fun x hx => by
      obtain ⟨f, hf, rfl⟩ := List.mem_map.1 hx
      exact (frTxt_len (List.all_eq_true.1 h f hf)).2)
    simpa using this
  · simp [ByteArray.size]
theorem fmtF_ne {L : List Frame} (h : L.all frOk = true) (hne : L ≠ []) : (fmtF L).size ≠ 0 := by
  unfold fmtF
  rw [if_pos h, bts_size]
  match L, hne with
  | [f], _ =>
    have := (frTxt_len (f := f) (by simpa using h)).1
    simp only [List.map_cons, List.map_nil, joinL]; omega
  | f :: g :: l, _ => simp [joinL]
/-- what is written is read -/
theorem parseF_fmtF {L : List Frame} (h : L.all frOk = true) (hne : L ≠ []) : parseF (fmtF L) = some L := by
  have e : fmtF L = bts (joinL 59 (L.map frTxt)) := by unfold fmtF; rw [if_pos h]
  have hl : (fmtF L).data.toList = joinL 59 (L.map frTxt) := by rw [e]; simp [bts]
  unfold parseF
  rw [hl, cutL_join 59 (by simpa using hne) (fun x hx => by
    obtain ⟨f, hf, rfl⟩ := List.mem_map.1 hx
    exact frTxt_no59 (List.all_eq_true.1 h f hf)), mapM_partF h]
  simp only
  rw [if_pos ⟨fmtF_ne h hne, by first | rfl | trivial⟩]
/-- what is read is frames' text -/
theorem parseF_some {s : ByteArray} {L : List Frame} (h : parseF s = some L) : fmtF L = s ∧ L ≠ [] ∧ L.all frOk = true := by
  unfold parseF at h
  split at h
  · rename_i M hM
    split at h
    · rename_i h2
      cases h
      refine ⟨h2.2, fun e => ?_, ?_⟩
      · subst e
        have := h2.2
        simp only [fmtF, List.all_nil, List.map_nil, joinL, if_true] at this
        exact h2.1 (by rw [← this]; rfl)
      · by_cases ha : L.all frOk = true
        · exact ha
        · have := h2.2
          unfold fmtF at this
          rw [if_neg ha] at this
          exact absurd (by rw [← this]; rfl) h2.1
    · cases h
  · cases h
theorem fmtF_inj {L M : List Frame} (hL : L.all frOk = true) (hM : M.all frOk = true) (hl : L ≠ []) (hm : M ≠ []) (h : fmtF L = fmtF M) : L = M := by
  have h1 := parseF_fmtF hL hl
  rw [h, parseF_fmtF hM hm] at h1
  exact (Option.some.inj h1).symm
end Go.Proofs.YtolnapfgfdgifaaDoor
