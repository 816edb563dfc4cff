/-
  DERIVED. VcE's operations are what the model's run does: rows, stores, append.
-/
import Derived.Test.YtdbjioanlkilkaaVcF
namespace Go.Vc
set_option linter.unusedVariables false
set_option linter.unusedSimpArgs false
section
variable {P : Program} {tys : List (Nat × TyD)} {N : Nat} {X0 : Nat → Prop} {M : Nat → BV → Prop} {w0 : World} {st : St} {β : Nat → BV} {a : Act} {w : World}

theorem eff_buildSlice (hty : ∀ T d, lk T tys = some d → TyOk P T d) (h : Sim N X0 M w0 st β a w) {o : Oper} {T n : Nat} {parts : Array (Nat × Operand)} (ho : o.op = .buildSlice T n parts) (hN : ∀ d, o.dst = some d → d < N) {K : St → Prop}
    (hw : st.eff tys o K) {Q : Exit → Act → World → Prop} : o.wp P a w (Ok N X0 M w0 K) Q := by
  unfold St.eff at hw
  rw [ho] at hw
  simp only at hw
  split at hw
  case h_2 => exact hw.elim
  case h_1 _ _ d t hd ht =>
    split at hw
    case h_2 => exact hw.elim
    case h_1 _ e he =>
      obtain ⟨hk, hpos, hlim, hzl, hz1, hp, hK⟩ := hw
      have hT := (hty T t ht).slice hk
      have hE := hty t.elem e he
      obtain ⟨zv, hz, hzc⟩ := hE.zero w
      have hflat0 : Flat w (XX X0 β st.hp) e.size (List.replicate n (e.z.map .v)) (((Array.range (n * e.size)).map (zv.cells[· % zv.cells.size]!)).toList) := by
        have := flat_zero (w := w) (X := XX X0 β st.hp) (n := n) (m := n * e.size) hzc hzl hz1 (Nat.le_refl _)
        rw [List.take_of_length_le (by simp)] at this
        exact this
      obtain ⟨cells, hfill, hcs, hrl, hfl⟩ := fill_ok h (z := e.z.map .v) parts.toList (List.replicate n (e.z.map .v)) _ (by simp) (by simp) hflat0 hp
      have hrun : (execOp a.eval o).run P w = .ok (.value (.slice (some ⟨w.heap.size, 0, none⟩) n n)) (w.alloc (.cells cells t.elem)) := by
        have hparts : (parts.map fun x => (x.1, a.eval x.2)).toList = parts.toList.map fun p => (p.1, a.eval p.2) := by simp
        by_cases h0 : n * e.size = 0
        · have hc0 : (Array.range (n * e.size)).map (fun x => zv.cells[x % zv.cells.size]!) = (Array.range (n * e.size)).map (fun x => (#[] : Array Value)[x % (#[] : Array Value).size]!) := by rw [h0]; simp
          rw [hc0] at hfill
          simp [execOp, ho, Instr.buildSlice, run_underlying hT, hE.sizeOf, show ¬ (16777216 < n * e.size) by omega, h0, newRow, hparts] at hfill ⊢
          simp [hfill]
        · simp [execOp, ho, Instr.buildSlice, run_underlying hT, hE.sizeOf, show ¬ (16777216 < n * e.size) by omega, h0, newRow, hparts, hz, hfill]
      have hn63 : n ≤ maxLen := by
        have := Nat.le_mul_of_pos_right n hpos
        simp only [maxLen]; omega
      refine fresh_wp h hd (hN d hd) hrun (alloc_below w _) rfl (fun b hb => ?_) (fun X' hX => row_obj (X := XX X0 β st.hp) hrl (Nat.le_refl _) hn63 hcs ?_ hX) (.inl rfl) hK
      · cases hb; exact ⟨Nat.le_refl _, by simp⟩
      · rw [List.take_of_length_le (by simp [hcs])]
        exact hfl

theorem eff_makeSlice (hty : ∀ T d, lk T tys = some d → TyOk P T d) (h : Sim N X0 M w0 st β a w) {o : Oper} {T : Nat} {l c : Operand} (ho : o.op = .makeSlice T l c) (hN : ∀ d, o.dst = some d → d < N) {K : St → Prop}
    (hw : st.eff tys o K) {Q : Exit → Act → World → Prop} : o.wp P a w (Ok N X0 M w0 K) Q := by
  unfold St.eff at hw
  rw [ho] at hw
  simp only at hw
  split at hw
  case h_2 => exact hw.elim
  case h_1 _ _ _ _ d t n m hd ht hl hc =>
    split at hw
    case h_2 => exact hw.elim
    case h_1 _ e he =>
      obtain ⟨hk, n1, n2, h0, hnm, hb, hbp, hzl, hz1, hK⟩ := hw
      have hT := (hty T t ht).slice hk
      have hE := hty t.elem e he
      obtain ⟨i, zv, hi, his, hib, hiz, hzc⟩ := hE.get
      have e1 := (St.ev_strip h hl n1).v_inv
      have e2 := (St.ev_strip h hc n2).v_inv
      have hm : m ≤ 281474976710656 := by
        have h1 : m * 1 ≤ m * (e.bytes : Int) := Int.mul_le_mul_of_nonneg_left (by omega) (by omega)
        omega
      have hmk := run_make (P := P) w T t.elem i zv hT hi hiz .i64 .i64 n m h0 hnm (by rw [hib, Int.mul_comm]; exact hb) (by omega)
      rw [his] at hmk
      have hzn : (madeCells zv.cells (m.toNat * e.size)).size = m.toNat * e.size := size_madeCells _ _
      have hle : n.toNat * e.size ≤ m.toNat * e.size := Nat.mul_le_mul_right _ (by omega)
      refine fresh_wp h hd (hN d hd) (w' := w.alloc (.cells (madeCells zv.cells (m.toNat * e.size)) t.elem)) (v := .slice (some ⟨w.heap.size, 0, none⟩) n.toNat m.toNat) ?_ (alloc_below w _) rfl (fun b hb => ?_)
        (fun X' hX => row_obj (X := XX X0 β st.hp) (by simp) (by omega) (by simp only [maxLen]; omega) hzn (flat_zero hzc hzl hz1 hle) hX) (.inl rfl) hK
      · simp [execOp, ho, e1, e2, hmk]
      · cases hb; exact ⟨Nat.le_refl _, by simp⟩

/-- cells written at a place of a row -/
theorem storeVar_ok {T : Nat} {t : TyD} (hT : TyOk P T t) {b off : Nat} {cur : Array Value} {e : Nat} (hh : w.heap[b]? = some (.cells cur e (0, 0))) {v : Value} (hs : v.cells.size = t.size) (h1 : ∀ u ∈ v.cells.toList, u.oneCell' = true)
    (hle : off + t.size ≤ cur.size) : (storeVar T ⟨b, off, none⟩ v).run P w = .ok () (w.setRow b (cur.toList.take off ++ v.cells.toList ++ cur.toList.drop (off + v.cells.toList.length)).toArray) := by
  have hr := run_storeCells_at (P := P) b off e v.cells.toList 0 cur w hh (by simp [hs]; omega) h1
  simp only [Nat.add_zero] at hr
  simp only [storeVar, Sem.run_bind, hT.sizeOf, Result.andThen_ok, hs, ne_eq, not_true, if_false]
  exact hr

theorem store_list {α : Type} (C new : List α) (base k s m : Nat) (hk : k + new.length ≤ s) (hb : base + s ≤ m) (hm : m ≤ C.length) :
    (C.take (base + k) ++ new ++ C.drop (base + k + new.length)).take m =
      (C.take m).take base ++ (((C.take m).drop base).take k ++ new ++ ((C.take m).drop (base + (k + new.length))).take (s - (k + new.length))) ++ (C.take m).drop (base + s) := by
  apply List.ext_getElem?
  intro j
  by_cases hj : j < m
  · rw [List.getElem?_take_of_lt hj, splice_get _ _ _ _ (by omega)]
    simp only [List.append_assoc]
    by_cases h1 : j < base
    · rw [if_pos (by omega), List.getElem?_append_left (by simp; omega), List.getElem?_take_of_lt h1, List.getElem?_take_of_lt hj]
    · rw [List.getElem?_append_right (by simp; omega)]
      have l1 : ((C.take m).take base).length = base := by simp; omega
      have l2 : (((C.take m).drop base).take k).length = k := by simp; omega
      have l3 : (((C.take m).drop (base + (k + new.length))).take (s - (k + new.length))).length = s - (k + new.length) := by simp; omega
      rw [l1]
      by_cases h2 : j < base + k
      · rw [if_pos h2, List.getElem?_append_left (by omega), List.getElem?_take_of_lt (by omega), List.getElem?_drop, List.getElem?_take_of_lt (by omega)]
        congr 1; omega
      · rw [if_neg h2, List.getElem?_append_right (by omega), l2]
        by_cases h3 : j < base + k + new.length
        · rw [if_pos h3, List.getElem?_append_left (by omega)]
          congr 1; omega
        · rw [if_neg h3, List.getElem?_append_right (by omega)]
          by_cases h4 : j < base + s
          · rw [List.getElem?_append_left (by omega), List.getElem?_take_of_lt (by omega), List.getElem?_drop, List.getElem?_take_of_lt (by omega)]
            congr 1; omega
          · rw [List.getElem?_append_right (by omega), l3, List.getElem?_drop, List.getElem?_take_of_lt (by omega)]
            congr 1; omega
  · rw [List.getElem?_eq_none (by simp; omega), List.getElem?_eq_none]
    simp only [List.length_append, List.length_take, List.length_drop]
    omega

theorem setRow_size (w : World) (b : Nat) (cs : Array Value) : (w.setRow b cs).heap.size = w.heap.size := by simp [World.setRow]

theorem eff_store (hty : ∀ T d, lk T tys = some d → TyOk P T d) (h : Sim N X0 M w0 st β a w) {o : Oper} {T : Nat} {p x : Operand} (ho : o.op = .store T p x) (hd0 : o.dst = none) {K : St → Prop}
    (hw : st.eff tys o K) {Q : Exit → Act → World → Prop} : o.wp P a w (Ok N X0 M w0 K) Q := by
  unfold St.eff at hw
  rw [ho] at hw
  simp only at hw
  have fin : ∀ {b off e : Nat} {cur : Array Value} {t : TyD} {id : Nat} {ob ob' : Ob}, lk T tys = some t → a.eval p = .pointer (some ⟨b, off, none⟩) → w.heap[b]? = some (.cells cur e (0, 0)) → (a.eval x).cells.size = t.size →
      (∀ u ∈ (a.eval x).cells.toList, u.oneCell' = true) → off + t.size ≤ cur.size → lk id st.hp = some ob → (β id).ft b →
      ObR (w.setRow b (cur.toList.take off ++ (a.eval x).cells.toList ++ cur.toList.drop (off + (a.eval x).cells.toList.length)).toArray) (XX X0 β st.hp) β (β id) ob' → K (st.wrt id ob') → o.wp P a w (Ok N X0 M w0 K) Q := by
    intro b off e cur t id ob ob' ht hv hh hs h1 hle hl hbb hob hK
    unfold Oper.wp
    have hr : (execOp a.eval o).run P w = .ok .skip (w.setRow b (cur.toList.take off ++ (a.eval x).cells.toList ++ cur.toList.drop (off + (a.eval x).cells.toList.length)).toArray) := by
      simp only [execOp, ho, Instr.storeAt, hv, Instr.sureAddr, Sem.run_bind, Sem.run_pure, Result.andThen_ok, storeVar_ok (hty T t ht) hh hs h1 hle]
    rw [hr, Oper.upon_skip, hd0]
    refine ⟨_, β, hK, ?_⟩
    exact h.write hl rfl rfl rfl (by rw [setRow_size]; exact Nat.le_refl _) (fun b' _ hne => setRow_other w b b' _ (fun e => hne (by rw [e]; exact hbb))) hob
  split at hw
  case h_2 => exact hw.elim
  case h_1 _ _ t id s i k ht hp =>
    split at hw
    case h_1 _ e cs hl =>
      obtain ⟨n1, n2, rfl, hcl, hc1, hk, hK⟩ := hw
      obtain ⟨b', hb', hv⟩ := (St.ev_strip h hp n1).ptr_inv
      have hR := (St.ev_ok h x).strip n2
      obtain ⟨hs, hcc⟩ := hR.cells h.beta hc1
      have hob := h.objs id _ hl
      cases hob with
      | box b cur hvb hh hlen hc =>
        have hbb : b' = b := by rw [hvb] at hb'; simpa [blk, plain] using hb'.symm
        subst hbb
        replace hb' := (h.objs id _ hl).blkft hb'
        refine fin (id := id) (off := k) ht (by rw [hv]; simp) hh (by rw [hs, hcl]) (hR.cellsOne h.beta hc1) (by omega) hl hb' (.box b' _ hvb (setRow_heap w b' cur _ e (0, 0) hh) ?_ fun j c u hj hu => ?_) hK
        · simp only [splice, List.length_append, List.length_take, List.length_drop, List.size_toArray, Array.length_toList]
          rw [hs]; omega
        · simp only [List.getElem?_toArray] at hu
          unfold splice at hj
          rw [splice_get _ _ _ _ (by omega)] at hj
          rw [splice_get _ _ _ _ (by rw [Array.length_toList, Array.length_toList, hs]; omega)] at hu
          rw [Array.length_toList, hs] at hu
          have hS : Same (XX X0 β st.hp) w (w.setRow b' (cur.toList.take k ++ (a.eval x).cells.toList ++ cur.toList.drop (k + (a.eval x).cells.toList.length)).toArray) :=
            ⟨by rw [setRow_size]; exact Nat.le_refl _, fun b2 _ hn => setRow_other w b' b2 _ (fun e => hn (by rw [e]; exact .inr ⟨id, _, hl, hb'⟩))⟩
          by_cases h1 : j < k
          · rw [if_pos h1] at hj hu
            rw [Array.getElem?_toList] at hu
            exact ⟨(hc j c u hj hu).1, (hc j c u hj hu).2.mono hS (fun _ _ hh => hh)⟩
          · rw [if_neg h1] at hj hu
            by_cases h2 : j < k + (st.ev x).strip.cells.length
            · rw [if_pos h2] at hj hu
              rw [Array.getElem?_toList] at hu
              have := hcc _ c u hj hu
              exact ⟨this.one h.beta (List.all_eq_true.1 hc1 c (List.mem_of_getElem? hj)), this.mono hS (fun _ _ hh => hh)⟩
            · rw [if_neg h2] at hj hu
              rw [Array.getElem?_toList] at hu
              exact ⟨(hc j c u hj hu).1, (hc j c u hj hu).2.mono hS (fun _ _ hh => hh)⟩
    case h_2 _ e s' rows hl =>
      obtain ⟨n1, n2, rfl, hi, hcl, hcp, hk, hK⟩ := hw
      obtain ⟨b', hb', hv⟩ := (St.ev_strip h hp n1).ptr_inv
      have hR := (St.ev_ok h x).strip n2
      obtain ⟨hs, hcc⟩ := hR.cells h.beta (pur_one hcp)
      have hob := h.objs id _ hl
      obtain ⟨L, hown, hfl⟩ := hob.owns
      rcases hown.2 with ⟨hvb, _⟩ | ⟨b, cap, cur, hvb, _, hh, h1, h2, h3, h4⟩
      · rw [hvb] at hb'; cases hb'
      · have hbb : b' = b := by rw [hvb] at hb'; simpa [blk, plain] using hb'.symm
        subst hbb
        replace hb' := hob.blkft hb'
        have hrl : (rowAt rows i).length = s := (ObR.cell hob hi).1
        have hbase : i * s + s ≤ rows.length * s := by
          have : (i + 1) * s ≤ rows.length * s := Nat.mul_le_mul_right s hi
          rw [Nat.add_mul] at this; omega
        have hcap : rows.length * s ≤ cap * s := Nat.mul_le_mul_right s h1
        refine fin (id := id) (off := i * s + k) ht hv hh (by rw [hs, hcl]) (hR.cellsOne h.beta (pur_one hcp)) (by omega) hl hb' ?_ hK
        have hS : Same (XX X0 β st.hp) w (w.setRow b' (cur.toList.take (i * s + k) ++ (a.eval x).cells.toList ++ cur.toList.drop (i * s + k + (a.eval x).cells.toList.length)).toArray) :=
          ⟨by rw [setRow_size]; exact Nat.le_refl _, fun b2 _ hn => setRow_other w b' b2 _ (fun e => hn (by rw [e]; exact .inr ⟨id, _, hl, hb'⟩))⟩
        have hnl : (a.eval x).cells.toList.length = t.size := by rw [Array.length_toList, hs, hcl]
        have hrow : rows[i]? = some (rowAt rows i) := by unfold rowAt; rw [List.getElem?_eq_getElem hi]; rfl
        have hLlen : L.length = rows.length * s := hfl.len
        -- the new row as cells
        have hset := hfl.set hi (row := splice (rowAt rows i) k (st.ev x).strip.cells) (new := ((L.drop (i * s)).take k ++ (a.eval x).cells.toList ++ (L.drop (i * s + (k + t.size))).take (s - (k + t.size))))
          (by simp only [splice, List.length_append, List.length_take, List.length_drop]; omega)
          (by simp only [List.length_append, List.length_take, List.length_drop, hnl]; omega)
          (fun u hu => by
            simp only [List.mem_append] at hu
            rcases hu with (hu | hu) | hu
            · exact hfl.one u (List.mem_of_mem_drop (List.mem_of_mem_take hu))
            · exact hR.cellsOne h.beta (pur_one hcp) u hu
            · exact hfl.one u (List.mem_of_mem_drop (List.mem_of_mem_take hu)))
          (fun j c u hj hu => by
            unfold splice at hj
            rw [splice_get _ _ _ _ (by omega)] at hj
            have hl1 : ((L.drop (i * s)).take k).length = k := by simp only [List.length_take, List.length_drop]; omega
            by_cases q1 : j < k
            · rw [if_pos q1] at hj
              rw [List.append_assoc, List.getElem?_append_left (by omega), List.getElem?_take_of_lt q1, List.getElem?_drop] at hu
              obtain ⟨u', hu', hr'⟩ := hfl.cell i j _ c hrow hj
              rw [hu'] at hu; cases hu; exact hr'
            · rw [if_neg q1] at hj
              by_cases q2 : j < k + (st.ev x).strip.cells.length
              · rw [if_pos q2] at hj
                rw [List.append_assoc, List.getElem?_append_right (by omega), hl1, List.getElem?_append_left (by omega), Array.getElem?_toList] at hu
                exact ((hcc _ c u hj hu).pur (List.all_eq_true.1 hcp c (List.mem_of_getElem? hj))).2
              · rw [if_neg q2] at hj
                have hjs : j < s := by rw [← hrl]; exact (List.getElem?_eq_some_iff.1 hj).1
                rw [List.getElem?_append_right (by simp only [List.length_append]; omega), List.getElem?_take_of_lt (by simp only [List.length_append]; omega), List.getElem?_drop] at hu
                simp only [List.length_append, hl1, hnl] at hu
                have e2 : i * s + (k + t.size) + (j - (k + t.size)) = i * s + j := by omega
                rw [e2] at hu
                obtain ⟨u', hu', hr'⟩ := hfl.cell i j _ c hrow hj
                rw [hu'] at hu; cases hu; exact hr')
        rw [hob.sl_plain]
        refine ObR.of_owns (base := 0) (L := L.take (i * s) ++ ((L.drop (i * s)).take k ++ (a.eval x).cells.toList ++ (L.drop (i * s + (k + t.size))).take (s - (k + t.size))) ++ L.drop (i * s + ((L.drop (i * s)).take k ++ (a.eval x).cells.toList ++ (L.drop (i * s + (k + t.size))).take (s - (k + t.size))).length)) ⟨?_, .inr ⟨b', cap, _, by rw [List.length_set]; exact hvb, Nat.zero_le _, setRow_heap w b' cur _ e (0, 0) hh, by rw [List.length_set]; exact h1, h2, ?_, ?_⟩⟩ (hset.mono hS (fun _ _ hh => hh))
        · rw [hset.len]
        · simp only [List.size_toArray, List.length_append, List.length_take, List.length_drop, hnl, Array.length_toList]; omega
        · rw [List.length_set]
          have e1 : ((L.drop (i * s)).take k ++ (a.eval x).cells.toList ++ (L.drop (i * s + (k + t.size))).take (s - (k + t.size))).length = s := by
            simp only [List.length_append, List.length_take, List.length_drop, hnl]; omega
          have hcur : cur.toList.length = cap * s := by rw [Array.length_toList, h3]
          have e2 := store_list cur.toList (a.eval x).cells.toList (i * s) k s (rows.length * s) (by rw [hnl]; omega) hbase (by omega)
          rw [e1, ← h4]
          rw [hnl] at e2 ⊢
          exact e2
    case h_3 _ e s' rows i0 row0 hl =>
      obtain ⟨n1, n2, rfl, rfl, hcl, hc1, hns, hk, hK⟩ := hw
      obtain ⟨b', hb', hv⟩ := (St.ev_strip h hp n1).ptr_inv
      have hR := (St.ev_ok h x).strip n2
      obtain ⟨hs, hcc⟩ := hR.cells h.beta hc1
      have hone := hR.cellsOne h.beta hc1
      have hob := h.objs id _ hl
      have hbft := hob.blkft hb'
      generalize hbv : β id = bv at hob hb' hbft
      cases hob with
      | dq b cap cur us fs hvb hh h1 h2 h3 h4 h5 h6 h7 h8 h9 h10 h11 h12 h13 hF =>
        have hbb : b' = b := by rw [hvb] at hb'; simpa [blk] using hb'.symm
        subst hbb
        have hbase : i * s + s ≤ rows.length * s := by
          have : (i + 1) * s ≤ rows.length * s := Nat.mul_le_mul_right s h4
          rw [Nat.add_mul] at this; omega
        have hcap : rows.length * s ≤ cap * s := Nat.mul_le_mul_right s h1
        have hnl : (a.eval x).cells.toList.length = t.size := by rw [Array.length_toList, hs, hcl]
        have hle : i * s + k + t.size ≤ cur.size := by omega
        generalize hw' : w.setRow b' (cur.toList.take (i * s + k) ++ (a.eval x).cells.toList ++ cur.toList.drop (i * s + k + (a.eval x).cells.toList.length)).toArray = w'
        have hoth : ∀ b2, b2 ≠ b' → w'.heap[b2]? = w.heap[b2]? := fun b2 hne => by rw [← hw']; exact setRow_other w b' b2 _ hne
        have hS : Same (XX X0 β st.hp) w w' :=
          ⟨by rw [← hw', setRow_size]; exact Nat.le_refl _, fun b2 _ hn => hoth b2 (fun e => hn (by rw [e]; exact .inr ⟨id, _, hl, by rw [hbv]; exact hbft⟩))⟩
        have hh' : w'.heap[b']? = some (.cells (cur.toList.take (i * s + k) ++ (a.eval x).cells.toList ++ cur.toList.drop (i * s + k + (a.eval x).cells.toList.length)).toArray e (0, 0)) := by rw [← hw']; exact setRow_heap w b' cur _ e (0, 0) hh
        generalize hcur' : (cur.toList.take (i * s + k) ++ (a.eval x).cells.toList ++ cur.toList.drop (i * s + k + (a.eval x).cells.toList.length)).toArray = cur' at hh'
        have hget : ∀ j, cur'[j]? = if j < i * s + k then cur[j]? else if j < i * s + k + t.size then (a.eval x).cells[j - (i * s + k)]? else cur[j]? := fun j => by
          rw [← hcur', List.getElem?_toArray, splice_get _ _ _ _ (by rw [hnl, Array.length_toList]; exact hle), hnl, Array.getElem?_toList, Array.getElem?_toList]
        have hsize : cur'.size = cur.size := by
          rw [← hcur', List.size_toArray]
          simp only [List.length_append, List.length_take, List.length_drop, hnl, Array.length_toList]; omega
        -- the new cells
        let us' : Nat → Nat → Value := fun i' k' => (cur'[i' * s + k']?).getD undef
        have hfull : ∀ i' k', i' < rows.length → k' < s → cur'[i' * s + k']? = some (us' i' k') := fun i' k' q1 q2 => by
          have : i' * s + k' < cur'.size := by rw [hsize, h3]; exact Nat.lt_of_lt_of_le (lt_flat q1 q2) hcap
          show _ = some ((cur'[i' * s + k']?).getD undef)
          rw [Array.getElem?_eq_getElem this]; rfl
        have hsame : ∀ i' k', i' < rows.length → k' < s → (i' ≠ i ∨ k' < k ∨ k + t.size ≤ k') → us' i' k' = us i' k' := fun i' k' q1 q2 q3 => by
          have e1 := hfull i' k' q1 q2
          have e2 := h7 i' k' q1 q2
          have e3 : cur'[i' * s + k']? = cur[i' * s + k']? := by
            rw [hget]
            rcases Nat.lt_or_ge i' i with hlt | hge
            · have : (i' + 1) * s ≤ i * s := Nat.mul_le_mul_right s hlt
              rw [Nat.add_mul] at this
              rw [if_pos (by omega)]
            · rcases Nat.lt_or_ge i i' with hlt | hge'
              · have : (i + 1) * s ≤ i' * s := Nat.mul_le_mul_right s hlt
                rw [Nat.add_mul] at this
                rw [if_neg (by omega), if_neg (by omega)]
              · have : i' = i := by omega
                subst this
                rcases q3 with q3 | q3 | q3
                · exact absurd rfl q3
                · rw [if_pos (by omega)]
                · rw [if_neg (by omega), if_neg (by omega)]
          rw [e3, e2] at e1
          injection e1 with e1
          exact e1.symm
        have hnew : ∀ k' u, k ≤ k' → k' < k + t.size → (a.eval x).cells[k' - k]? = some u → us' i k' = u := fun k' u q1 q2 q3 => by
          have e1 := hfull i k' h4 (by omega)
          rw [hget, if_neg (by omega), if_pos (by omega), show i * s + k' - (i * s + k) = k' - k from by omega, q3] at e1
          injection e1 with e1
          exact e1.symm
        let fs' : Nat → Nat → Nat → Prop := fun i' k' b2 => fs i' k' b2 ∧ ¬ (i' = i ∧ k ≤ k' ∧ k' < k + t.size)
        have hFs : ∀ b2, (b2 = b' ∨ ∃ i' k', fs' i' k' b2) → bv.ft b2 := fun b2 hh => (hF b2).2 (hh.imp _root_.id fun ⟨i', k', q, _⟩ => ⟨i', k', q⟩)
        have hrow' : (splice row0 k (st.ev x).strip.cells).length = s := by
          simp only [splice, List.length_append, List.length_take, List.length_drop]; omega
        let β' : Nat → BV := fun j => if j = id then ⟨bv.val, fun b2 => b2 = b' ∨ ∃ i' k', fs' i' k' b2⟩ else β j
        have hβval : ∀ j, (β' j).val = (β j).val := fun j => by
          show (if j = id then (⟨bv.val, _⟩ : BV) else β j).val = _
          split
          · rename_i e; rw [e, hbv]
          · rfl
        have hob' : ObR w' (XX X0 β st.hp) β' (⟨bv.val, fun b2 => b2 = b' ∨ ∃ i' k', fs' i' k' b2⟩ : BV) (.dq e s rows i (splice row0 k (st.ev x).strip.cells)) := by
          refine .dq b' cap cur' us' fs' hvb hh' h1 h2 (by rw [hsize]; exact h3) h4 hrow' h6 hfull (fun i' k' q1 q2 => ?_) (fun i' k' row c q0 q1 q2 => ?_) (fun k' c q => ?_) (fun i' k' b2 q => h11 i' k' b2 q.1) (fun i' k' q => h12 i' k' q.1) (fun i1 k1 i2 k2 b2 q1 q2 => h13 i1 k1 i2 k2 b2 q1.1 q2.1) (fun b2 => Iff.rfl)
          · by_cases hq : i' = i ∧ k ≤ k' ∧ k' < k + t.size
            · obtain ⟨rfl, q3, q4⟩ := hq
              have hlt : k' - k < (a.eval x).cells.size := by omega
              rw [hnew k' _ q3 q4 (Array.getElem?_eq_getElem hlt)]
              exact hone _ (by simp)
            · rw [hsame i' k' q1 q2 (by omega)]; exact h8 i' k' q1 q2
          · obtain ⟨r1, r2⟩ := row_lt h6 q1 q2
            rw [hsame i' k' r1 r2 (.inl q0)]
            refine ((h9 i' k' row c q0 q1 q2).keep fun b2 hb2 => hoth b2 fun e => h12 i' k' (e ▸ hb2)).ext fun b2 => ?_
            show (fs i' k' b2 ∧ _) ↔ _
            exact ⟨fun g => g.1, fun g => ⟨g, fun g2 => q0 g2.1⟩⟩
          · have hk' : k' < s := by rw [← hrow']; exact (List.getElem?_eq_some_iff.1 q).1
            unfold splice at q
            rw [splice_get _ _ _ _ (by omega), hcl] at q
            by_cases hq : k ≤ k' ∧ k' < k + t.size
            · rw [if_neg (by omega), if_pos hq.2] at q
              have hlt : k' - k < (a.eval x).cells.size := by omega
              have hu := Array.getElem?_eq_getElem hlt
              rw [hnew k' _ hq.1 hq.2 hu]
              have hsl := List.all_eq_true.1 hns c (List.mem_of_getElem? q)
              refine .inr ⟨by simpa using hsl, ((hcc _ c _ q hu).mono hS (fun _ _ hh => hh)).val_eq hβval, fun b2 g => g.2 ⟨rfl, hq⟩⟩
            · have hold : row0[k']? = some c := by
                by_cases g : k' < k
                · rw [if_pos g] at q; exact q
                · rw [if_neg g, if_neg (by omega)] at q; exact q
              rw [hsame i k' h4 hk' (by omega)]
              have hfe : ∀ b2, fs' i k' b2 ↔ fs i k' b2 := fun b2 => ⟨fun g => g.1, fun g => ⟨g, fun g2 => hq g2.2⟩⟩
              rcases h10 k' c hold with ⟨g1, g2⟩ | ⟨g1, g2, g3⟩
              · exact .inl ⟨g1, (g2.keep fun b2 hb2 => hoth b2 fun e => h12 i k' (e ▸ hb2)).ext hfe⟩
              · exact .inr ⟨g1, (g2.mono hS (fun _ _ hh => hh)).val_eq hβval, fun b2 g => g3 b2 ((hfe b2).1 g)⟩
        unfold Oper.wp
        have hr : (execOp a.eval o).run P w = .ok .skip w' := by
          rw [← hw']
          simp only [execOp, ho, Instr.storeAt, hv, Instr.sureAddr, Sem.run_bind, Sem.run_pure, Result.andThen_ok, storeVar_ok (hty T t ht) hh (by rw [hs, hcl]) hone hle]
        rw [hr, Oper.upon_skip, hd0]
        refine ⟨_, β', hK, ?_⟩
        exact h.writeQ hl (v := ⟨bv.val, fun b2 => b2 = b' ∨ ∃ i' k', fs' i' k' b2⟩) (by rw [hbv]) (fun b2 hb2 => by rw [hbv]; exact hFs b2 hb2) (if_pos rfl) rfl (by rw [← hw']; rfl) (by rw [← hw']; rfl) (by rw [← hw']; rfl) (by rw [← hw', setRow_size]; exact Nat.le_refl _)
          (fun b2 _ hne => hoth b2 fun e => hne (by rw [hbv, e]; exact hbft)) hob'
    case h_4 => exact hw.elim

/-! ## append -/

theorem run_append_of_nil (base : Nat) (t ty e : TypeId) (i : TypeInfo) (size : Nat) (ht : P.underlying t = some (.slice e)) (hi : P.info? e = some i)
    (v : Value) (n : Nat) (xs : List Value) (hown : w.ownsRow base e size v n xs) (p : Option Addr) (c : Nat) : (Builtin.append_ #[t, t] ty #[v, .slice p 0 c]).run P w = .ok v w := by
  rcases hown.2 with ⟨rfl, rfl⟩ | ⟨g, cap, cur, rfl, _, _, hnc, _⟩
  · cases p <;> simp [Builtin.append_, run_underlying ht, sizeOf, typeInfo, hi, Builtin.lenOf, Builtin.firstCells, loadCells, loadCellsFrom]
  · cases p <;> simp [Builtin.append_, run_underlying ht, sizeOf, typeInfo, hi, Builtin.lenOf, Builtin.firstCells, hnc, storeCells, loadCells, loadCellsFrom]

/-- what is appended -/
theorem rowsOf_ok (h : Sim N X0 M w0 st β a w) {y : SV} {v : Value} {rows : List (List SV)} (hy : st.rowsOf y = some rows) (hR : R w (XX X0 β st.hp) β y v) (s : Nat) (hs : ∀ row ∈ rows, row.length = s) :
    ((∃ p cap, v = .slice p 0 cap) ∧ rows = []) ∨ ∃ b off cap L, v = .slice (some ⟨b, off, none⟩) rows.length cap ∧ Flat w (XX X0 β st.hp) s rows L ∧ ∀ j u, L[j]? = some u → w.cell? ((⟨b, off, none⟩ : Addr).add j) = some u := by
  have key : ∀ {s' : Nat} {L : List Value}, Flat w (XX X0 β st.hp) s' rows L → Flat w (XX X0 β st.hp) s rows L := fun {s' L} hf => by
    rcases Nat.eq_zero_or_pos rows.length with h0 | h0
    · have := List.eq_nil_of_length_eq_zero h0
      subst this
      exact ⟨by simpa using hf.len, by simp, hf.one, by simp⟩
    · have h1 := hf.row 0 _ (List.getElem?_eq_getElem h0)
      have h2 := hs _ (List.getElem_mem h0)
      have : s' = s := by rw [← h1, ← h2]
      rw [← this]; exact hf
  unfold St.rowsOf at hy
  split at hy
  case h_1 s' rows' =>
    cases hy
    rcases slice_form hR.sl_inv with ⟨e1, e2⟩ | ⟨b, off, cap, e1, _⟩
    · exact .inl ⟨e1, e2⟩
    · obtain ⟨L, hf, hc⟩ := (e1 ▸ hR.sl_inv).flat
      exact .inr ⟨b, off, cap, L, e1, key hf, fun j u hu => by rw [add_none]; exact hc j u hu⟩
  case h_2 m =>
    split at hy
    · rename_i e s' rows' hl
      cases hy
      have hv := hR.own_inv
      obtain ⟨L, hown, hf⟩ := (h.objs m _ hl).owns
      rcases hown.2 with ⟨e1, e2⟩ | ⟨b, cap, cur, e1, _⟩
      · exact .inl ⟨⟨_, _, hv.trans e1⟩, List.eq_nil_of_length_eq_zero e2⟩
      · exact .inr ⟨b, 0, cap, L, hv.trans e1, key hf, hown.cells (g := b) (by rw [e1]; rfl)⟩
    · cases hy
  case h_3 => cases hy; exact .inl ⟨⟨_, _, hR.v_inv⟩, rfl⟩
  case h_4 => cases hy

theorem app_run (hty : ∀ T d, lk T tys = some d → TyOk P T d) {o : Oper} {c : Call} {x y : Operand} {T : Nat} {t e : TyD} (ho : o.op = .call c) (hc : c.callee = .builtin .append) (ha : c.args.toList = [x, y]) (hA : c.argTypes.toList = [T, T])
    (ht : lk T tys = some t) (he : lk t.elem tys = some e) (hk : t.kind = 1) (hsz : 0 < e.size) (hby : 0 < e.bytes) (hzl : e.z.length = e.size) {X : Nat → Prop} {rows news : List (List SV)} {vx vy : Value} (hvx : a.eval x = vx) (hvy : a.eval y = vy)
    {L : List Value} (hown : w.ownsRow 0 t.elem e.size vx rows.length L) (hfl : Flat w X e.size rows L)
    (hnews : ((∃ p cap, vy = .slice p 0 cap) ∧ news = []) ∨ ∃ b off cap L, vy = .slice (some ⟨b, off, none⟩) news.length cap ∧ Flat w X e.size news L ∧ ∀ j u, L[j]? = some u → w.cell? ((⟨b, off, none⟩ : Addr).add j) = some u)
    (hbytes : (rows.length + news.length) * e.bytes ≤ 140737488355328) :
    ∃ v' w' L', (execOp a.eval o).run P w = .ok (.value v') w' ∧ w'.ownsRow 0 t.elem e.size v' (rows ++ news).length L' ∧ Flat w X e.size (rows ++ news) L' ∧ w.grownBy w' vx.ownBlock ∧ (v'.ownBlock = vx.ownBlock ∨ v'.ownBlock = some w.heap.size) := by
  have e1 : c.args = #[x, y] := by rw [← Array.toArray_toList (xs := c.args), ha]
  have e2 : c.argTypes = #[T, T] := by rw [← Array.toArray_toList (xs := c.argTypes), hA]
  have hT := (hty T t ht).slice hk
  obtain ⟨i, zv, hi, his, hib, hiz, hzc⟩ := (hty t.elem e he).get
  have hgo : ∀ {v' w'}, (Builtin.append_ #[T, T] o.type #[vx, vy]).run P w = .ok v' w' → (execOp a.eval o).run P w = .ok (.value v') w' := fun {v' w'} hr => by
    simp [execOp, ho, resolve, hc, e1, e2, invoke, builtin, hvx, hvy, hr]
  rcases hnews with ⟨⟨pp, pc, rfl⟩, rfl⟩ | ⟨b, off, cap, L2, rfl, hf2, hc2⟩
  · have hr := run_append_of_nil (P := P) (w := w) 0 T o.type t.elem i e.size hT hi vx rows.length L hown pp pc
    exact ⟨vx, w, L, hgo hr, by simpa using hown, by simpa using hfl, World.grownBy.refl w _, .inl rfl⟩
  · have hle : rows.length + news.length ≤ maxLen := by
      have := Nat.le_mul_of_pos_right (rows.length + news.length) hby
      simp only [maxLen]; omega
    obtain ⟨v', w', hr, h2, h3, _, h5⟩ := run_append_own_at (P := P) w 0 T o.type t.elem i zv e.size e.bytes hT hi hiz his hib (by rw [← Array.length_toList, hzc, hzl]) hsz vx rows.length L hown ⟨b, off, none⟩ news.length cap L2 hf2.len hc2 hf2.one hle hbytes (Nat.zero_le _)
    exact ⟨v', w', L ++ L2, hgo hr, by rw [List.length_append]; exact h2, hfl.append hf2, h3, h5⟩

theorem blk_own {v : Value} {b : Nat} (h : v.ownBlock = some b) : blk v = some b := by
  cases v <;> simp only [Value.ownBlock, reduceCtorEq] at h
  rename_i x _ _
  cases x with
  | none => cases h
  | some ad => exact h

theorem eff_append (hty : ∀ T d, lk T tys = some d → TyOk P T d) (h : Sim N X0 M w0 st β a w) {o : Oper} {c : Call} (ho : o.op = .call c) (hc : c.callee = .builtin .append) (hN : ∀ d, o.dst = some d → d < N) {K : St → Prop}
    (hw : st.eff tys o K) {Q : Exit → Act → World → Prop} : o.wp P a w (Ok N X0 M w0 K) Q := by
  unfold St.eff at hw
  rw [ho] at hw
  simp only [hc] at hw
  split at hw
  case h_2 => exact hw.elim
  case h_1 _ _ _ d x y T T' hd ha hA =>
    split at hw
    case h_2 => exact hw.elim
    case h_1 _ _ t news ht hnr =>
      split at hw
      case h_2 => exact hw.elim
      case h_1 _ e he =>
        obtain ⟨rfl, hk, n1, n2, hsz, hby, hzl, hw⟩ := hw
        have hRy := (St.ev_ok h y).strip n2
        split at hw
        case h_3 => exact hw.elim
        case h_1 _ j hj =>
          split at hw
          case h_2 => exact hw.elim
          case h_1 _ e' s' rows hl =>
            obtain ⟨hjl, rfl, rfl, hbytes, hrows, hK⟩ := hw
            have hvx := (St.ev_strip h hj n1).own_inv
            obtain ⟨L, hown, hfl⟩ := (h.objs j _ hl).owns
            obtain ⟨v', w', L', hrun, hown', hfl', hg, hat⟩ := app_run hty ho hc ha hA ht he hk hsz hby hzl (X := XX X0 β st.hp) hvx rfl hown hfl (rowsOf_ok h hnr hRy e.size hrows) hbytes
            have hbx : ∀ b, (β j).val.ownBlock = some b ↔ (β j).ft b := fun b => by
              have hp := (h.objs j _ hl).sl_plain
              have hq : (β j).ft b ↔ blk (β j).val = some b := by rw [hp]; exact Iff.rfl
              rw [hq]
              rcases hown.2 with ⟨e1, _⟩ | ⟨b', cap, cur, e1, _⟩ <;> rw [e1] <;> simp [Value.ownBlock, blk]
            have hbv : ∀ b, blk v' = some b → ((β j).ft b ∨ b = w.heap.size) ∧ b < w'.heap.size := fun b hb => by
              have hb' : v'.ownBlock = some b := by
                rcases hown'.2 with ⟨e1, _⟩ | ⟨b', cap, cur, e1, _⟩
                · rw [e1] at hb; cases hb
                · rw [e1] at hb ⊢; exact hb
              refine ⟨?_, (hown'.lt b hb').2⟩
              rcases hat with hat | hat
              · exact .inl ((hbx b).1 (hat ▸ hb'))
              · rw [hat] at hb'; right; injection hb' with e; exact e.symm
            let β' : Nat → BV := fun i => if i = j then plain v' else β i
            have hβ : ∀ i, i ≠ j → β' i = β i := fun i hi => by show (if i = j then plain v' else β i) = _; rw [if_neg hi]
            have hβj : β' j = plain v' := by show (if j = j then plain v' else β j) = _; rw [if_pos rfl]
            have hv1 : v'.oneCell' = true := by
              rcases hown'.2 with ⟨e1, _⟩ | ⟨b', cap, cur, e1, _⟩ <;> rw [e1] <;> rfl
            have hblock : ∀ b, b < w.heap.size → ¬ (β j).ft b → w'.heap[b]? = w.heap[b]? := fun b hlt hne => hg.block b hlt (fun e => hne ((hbx b).1 e.symm))
            have hX1 : ∀ b, b < w.heap.size → (X0 b ∨ blk v' = some b) → XX X0 β st.hp b := fun b hlt hh => by
              rcases hh with hh | hh
              · exact .inl hh
              · rcases (hbv b hh).1 with e1 | e1
                · exact .inr ⟨j, _, hl, e1⟩
                · omega
            have h1 : Sim N (fun b => X0 b ∨ blk v' = some b) M w0 (st.kill j) β' a w' :=
              h.kill j hjl hβ (by rw [hβj]; exact hv1) hg.os hg.tape hg.output hg.size (fun b hlt hn => hblock b hlt (hn (by rw [hl]; simp))) hX1 (fun b hh => by
                rcases hh with hh | hh
                · exact Nat.lt_of_lt_of_le (h.x0 b hh) hg.size
                · exact (hbv b hh).2)
            have hXk : ∀ b, b < w.heap.size → XX (fun b => X0 b ∨ blk v' = some b) β' (st.kill j).hp b → XX X0 β st.hp b := fun b hlt hh => XX_kill hβ (hX1 b hlt) hh
            have hS : Same (XX X0 β st.hp) w w' := ⟨hg.size, fun b hlt hn => hblock b hlt (fun e => hn (.inr ⟨j, _, hl, e⟩))⟩
            have h2 := h1.add (j := j) (lk_kill st j) (ob := .sl t.elem e.size (rows ++ news)) (by rw [hβj]; exact ObR.of_owns (base := 0) hown' (hfl'.mono hS hXk)) (fun b hh => .inr (by rw [hβj] at hh; exact hh))
              (fun b hh => by
                rw [hβj] at hh
                rcases (hbv b hh).1 with e1 | e1
                · exact h.mine j _ b hl e1
                · exact .inr (by rw [e1]; exact h.grew))
              (fun b id o hh hi hid => by
                rw [hβj] at hh
                have hne : id ≠ j := fun e => by subst e; rw [lk_kill] at hi; cases hi
                rw [hβ id hne] at hid
                simp only [St.kill, lk_map] at hi
                rw [lk_er_ne hne] at hi
                cases hy : lk id st.hp with
                | none => rw [hy] at hi; cases hi
                | some y =>
                  rcases (hbv b hh).1 with e1 | e1
                  · exact hne (h.inj id j y _ b hy hl hid e1)
                  · have := (h.objs id y hy).lt hid
                    omega)
            have h3 := h2.un (X1 := X0) (fun b hh => .inl hh)
            unfold Oper.wp
            rw [hrun, Oper.upon_value, hd]
            refine ⟨_, β', hK, ?_⟩
            have hR := R.own (w := w') (X := XX X0 β' ((j, .sl t.elem e.size (rows ++ news)) :: (st.kill j).hp)) (β := β') j
            rw [hβj] at hR
            exact h3.put (hN d hd) hR
        case h_2 _ hj =>
          obtain ⟨hbytes, hrows, hK⟩ := hw
          have hvx := (St.ev_strip h hj n1).v_inv
          have hfl0 : Flat w (XX X0 β st.hp) e.size [] [] := ⟨by simp, by simp, by simp, by simp⟩
          obtain ⟨v', w', L', hrun, hown', hfl', hg, hat⟩ := app_run hty ho hc ha hA ht he hk hsz hby hzl (X := XX X0 β st.hp) (rows := []) hvx rfl (World.ownsRow_nil w 0 t.elem e.size) hfl0 (rowsOf_ok h hnr hRy e.size hrows) (by simpa using hbytes)
          have hb : Go.RowKit.Below w.heap.size w w' := ⟨hg.os, hg.tape, hg.output, hg.size, fun b hlt => hg.block b hlt (by simp [Value.ownBlock])⟩
          refine fresh_wp h hd (hN d hd) hrun hb ?_ (fun b hbb => ?_) (fun X' hX => ?_) (.inl rfl) hK
          · rcases hown'.2 with ⟨e1, _⟩ | ⟨b', cap, cur, e1, _⟩ <;> rw [e1] <;> rfl
          · have hb' : v'.ownBlock = some b := by
              rcases hown'.2 with ⟨e1, _⟩ | ⟨b', cap, cur, e1, _⟩
              · rw [e1] at hbb; cases hbb
              · rw [e1] at hbb ⊢; exact hbb
            rcases hat with hat | hat
            · rw [hat] at hb'; cases hb'
            · have := (hown'.lt b hb').2
              rw [hat] at hb'
              injection hb' with e1
              omega
          · exact ObR.of_owns (base := 0) hown' (hfl'.mono ⟨hb.size, fun b hlt _ => hb.block b hlt⟩ hX)
end
end Go.Vc
