/-
  DERIVED. As VcC, the other operations.
-/
import Derived.Test.YtkikcjomjofhmaaVcC
namespace Go.Vc
set_option linter.unusedVariables false
set_option linter.unusedSimpArgs false
section
variable {P : Program} {tys : List (Nat × TyD)} {N : Nat} {X0 : Nat → Prop} {M : Nat → Value → Prop} {w0 : World} {st : St} {β : Nat → Value} {a : Act} {w : World}

theorem pr_binOp (hty : ∀ T d, lk T tys = some d → TyOk P T d) (h : Sim N X0 M w0 st β a w) {o : Oper} {op : BinOp} {T U : Nat} {x y : Operand} (ho : o.op = .binOp op T x y U) {ob : Prop} {r : SV}
    (hp : st.pr tys (.binOp op T x y U) = some (ob, r)) (hob : ob) : Yl P (XX X0 β st.hp) β a w o r := by
  simp only [St.pr] at hp
  split at hp
  case h_1 _ _ p q hx hy =>
    split at hp
    case h_1 _ pp rr hs =>
      simp only [Option.some.injEq, Prod.mk.injEq] at hp
      obtain ⟨rfl, rfl⟩ := hp
      obtain ⟨h1, h2, h3⟩ := hob
      have e1 := (St.ev_strip h hx h1).v_inv
      have e2 := (St.ev_strip h hy h2).v_inv
      have hbl : ((lk T tys).map (·.kind) == some 5) = true → P.underlying T = some .bool := fun hb => by
        cases hd : lk T tys with
        | none => rw [hd] at hb; simp at hb
        | some d => rw [hd] at hb; exact (hty T d hd).bool (by simpa using hb)
      have hr := scal2_sound (P := P) hbl hs h3 x y w
      refine ⟨rr, ?_, .p (.v _)⟩
      simp only [Sem.run_bind] at hr
      simp only [execOp, ho, e1, e2, Sem.run_bind, hr, Result.andThen_ok, Sem.run_pure]
    case h_2 => cases hp
  case h_2 => cases hp

theorem pr_unOp (h : Sim N X0 M w0 st β a w) {o : Oper} {op : UnOp} {T : Nat} {x : Operand} (ho : o.op = .unOp op T x) {ob : Prop} {r : SV}
    (hp : st.pr tys (.unOp op T x) = some (ob, r)) (hob : ob) : Yl P (XX X0 β st.hp) β a w o r := by
  simp only [St.pr] at hp
  split at hp
  case h_1 _ p hx =>
    split at hp
    case h_1 _ pp rr hs =>
      simp only [Option.some.injEq, Prod.mk.injEq] at hp
      obtain ⟨rfl, rfl⟩ := hp
      obtain ⟨h1, h3⟩ := hob
      have e1 := (St.ev_strip h hx h1).v_inv
      have hr := scal1_sound (P := P) hs h3 w
      refine ⟨rr, ?_, .p (.v _)⟩
      simp only [execOp, ho, e1, Sem.run_bind, hr, Result.andThen_ok, Sem.run_pure]
    case h_2 => cases hp
  case h_2 => cases hp

theorem pr_pick (h : Sim N X0 M w0 st β a w) {o : Oper} {c x y : Operand} (ho : o.op = .pick c x y) {ob : Prop} {r : SV}
    (hp : st.pr tys (.pick c x y) = some (ob, r)) (hob : ob) : Yl P (XX X0 β st.hp) β a w o r := by
  simp only [St.pr] at hp
  split at hp
  case h_1 _ _ _ cv p q hc hx hy =>
    simp only [Option.some.injEq, Prod.mk.injEq] at hp
    obtain ⟨rfl, rfl⟩ := hp
    have ec := (hc ▸ St.ev_ok h c : R w _ β (.v (.bool cv)) (a.eval c)).v_inv
    cases cv with
    | true =>
      have e1 := (St.ev_strip h hx (hob.1 rfl)).v_inv
      exact ⟨.bool p, by simp [execOp, ho, ec, asBool, e1], .p (.v _)⟩
    | false =>
      have e1 := (St.ev_strip h hy (hob.2 rfl)).v_inv
      exact ⟨.bool q, by simp [execOp, ho, ec, asBool, e1], .p (.v _)⟩
  case h_2 => cases hp

theorem pr_nilCheck (h : Sim N X0 M w0 st β a w) {o : Oper} {x : Operand} (ho : o.op = .nilCheck x) {ob : Prop} {r : SV}
    (hp : st.pr tys (.nilCheck x) = some (ob, r)) (hob : ob) : Yl P (XX X0 β st.hp) β a w o r := by
  simp only [St.pr] at hp
  split at hp
  case h_1 _ id s i k hx =>
    simp only [Option.some.injEq, Prod.mk.injEq] at hp
    obtain ⟨rfl, rfl⟩ := hp
    have hr := St.ev_strip h hx hob
    obtain ⟨b, hb, e⟩ := hr.ptr_inv
    exact ⟨_, by simp [execOp, ho, e], e ▸ hr⟩
  case h_2 _ s rows i k hx =>
    simp only [Option.some.injEq, Prod.mk.injEq] at hp
    obtain ⟨rfl, rfl⟩ := hp
    have hr := St.ev_strip h hx hob
    obtain ⟨b, off, cap, hb, e⟩ := hr.rptr_inv
    exact ⟨_, by simp [execOp, ho, e], e ▸ hr⟩
  case h_3 => cases hp

theorem field_ok {T : Nat} {d : TyD} (hT : TyOk P T d) (hk : d.kind = 3) {f : Nat} {o : Nat × Nat} (hf : d.offs[f]? = some o) (ho : o.2 ≠ 0) (b off : Nat) (w : World) :
    (Instr.fieldAt T (.pointer (some ⟨b, off, none⟩)) f).run P w = .ok (.pointer (some ⟨b, off + o.1, none⟩)) w := by
  obtain ⟨fs, hu, hfs⟩ := hT.struct hk
  rw [← hfs, List.getElem?_map] at hf
  cases hff : fs.toList[f]? with
  | none => rw [hff] at hf; cases hf
  | some fd =>
    rw [hff] at hf
    simp only [Option.map_some, Option.some.injEq] at hf
    subst hf
    have hfa : fs[f]? = some fd := by simpa using hff
    cases hi : P.info? fd.type with
    | none => rw [hi] at ho; simp at ho
    | some i =>
      rw [hi] at ho
      have hsz : i.size ≠ 0 := by simpa using ho
      simp [Instr.fieldAt, run_underlying hu, hfa, Instr.sureAddr, fieldPlace, Go.sizeOf, typeInfo, hi, hsz, add_none]

theorem pr_fieldAddr (hty : ∀ T d, lk T tys = some d → TyOk P T d) (h : Sim N X0 M w0 st β a w) {o : Oper} {T f : Nat} {x : Operand} (ho : o.op = .fieldAddr T x f) {ob : Prop} {r : SV}
    (hp : st.pr tys (.fieldAddr T x f) = some (ob, r)) (hob : ob) : Yl P (XX X0 β st.hp) β a w o r := by
  simp only [St.pr] at hp
  split at hp
  case h_1 _ _ d id s i k hd hx =>
    split at hp
    · rename_i hk
      split at hp
      · rename_i _ off hf
        simp only [Option.some.injEq, Prod.mk.injEq] at hp
        obtain ⟨rfl, rfl⟩ := hp
        obtain ⟨b, hb, e⟩ := (St.ev_strip h hx hob.1).ptr_inv
        refine ⟨.pointer (some ⟨b, i * s + k + off.1, none⟩), by simp [execOp, ho, e, field_ok (hty T d hd) hk hf hob.2], ?_⟩
        have := R.ptr (w := w) (X := XX X0 β st.hp) (β := β) id s i (k + off.1) b hb
        simpa [Nat.add_assoc] using this
      · cases hp
    · cases hp
  case h_2 _ _ d s rows i k hd hx =>
    split at hp
    · rename_i hk
      split at hp
      · rename_i _ off hf
        simp only [Option.some.injEq, Prod.mk.injEq] at hp
        obtain ⟨rfl, rfl⟩ := hp
        obtain ⟨b, off', cap, hb, e⟩ := (St.ev_strip h hx hob.1).rptr_inv
        refine ⟨.pointer (some ⟨b, off' + (i * s + k) + off.1, none⟩), by simp [execOp, ho, e, field_ok (hty T d hd) hk hf hob.2], ?_⟩
        have := R.rptr (β := β) s rows i (k + off.1) b off' cap hb
        simpa [Nat.add_assoc] using this
      · cases hp
    · cases hp
  case h_3 => cases hp

theorem pr_index (hty : ∀ T d, lk T tys = some d → TyOk P T d) (h : Sim N X0 M w0 st β a w) {o : Oper} {T : Nat} {x ix : Operand} (ho : o.op = .index T x ix) {ob : Prop} {r : SV}
    (hp : st.pr tys (.index T x ix) = some (ob, r)) (hob : ob) : Yl P (XX X0 β st.hp) β a w o r := by
  simp only [St.pr] at hp
  split at hp
  case h_1 _ _ _ d s n hd hx hi =>
    split at hp
    · rename_i hk
      simp only [Option.some.injEq, Prod.mk.injEq] at hp
      obtain ⟨rfl, rfl⟩ := hp
      obtain ⟨h1, h2, h3, h4⟩ := hob
      have e1 := (St.ev_strip h hx h1).v_inv
      have e2 := (St.ev_strip h hi h2).v_inv
      have hlt : n.toNat < s.size := by omega
      have hg : s[n.toNat]? = some s[n.toNat]! := by rw [getElem?_pos s n.toNat hlt, getElem!_pos s n.toNat hlt]
      exact ⟨_, by simp [execOp, ho, e1, e2, Instr.index, asIntOf, run_underlying ((hty T d hd).string hk), h3, hg], .p (.v _)⟩
    · cases hp
  case h_2 => cases hp

theorem pr_extract (h : Sim N X0 M w0 st β a w) {o : Oper} {i : Nat} {x : Operand} (ho : o.op = .extract x i) {ob : Prop} {r : SV}
    (hp : st.pr tys (.extract x i) = some (ob, r)) (hob : ob) : Yl P (XX X0 β st.hp) β a w o r := by
  simp only [St.pr] at hp
  split at hp
  case h_1 _ cs hx =>
    split at hp
    · rename_i _ c hc
      simp only [Option.some.injEq, Prod.mk.injEq] at hp
      obtain ⟨rfl, rfl⟩ := hp
      obtain ⟨us, e, hl, hh⟩ := (St.ev_strip h hx hob).tup_inv
      have hi : i < us.length := by rw [← hl]; exact (List.getElem?_eq_some_iff.1 hc).1
      have hu : us[i]? = some (us[i]'hi) := List.getElem?_eq_getElem hi
      exact ⟨us[i]'hi, by simp [execOp, ho, e, Instr.extract, hu], hh i c _ hc hu⟩
    · cases hp
  case h_2 => cases hp

theorem pr_makeFunc (h : Sim N X0 M w0 st β a w) {o : Oper} {fn : Fn} {first caps : Array Operand} (ho : o.op = .makeFunc fn first caps) {ob : Prop} {r : SV}
    (hp : st.pr tys (.makeFunc fn first caps) = some (ob, r)) (hob : ob) : Yl P (XX X0 β st.hp) β a w o r := by
  cases fn <;> try (simp only [St.pr, reduceCtorEq] at hp; done)
  case func f =>
    simp only [St.pr] at hp
    split at hp
    · rename_i hfirst
      subst hfirst
      simp only [Option.some.injEq, Prod.mk.injEq] at hp
      obtain ⟨rfl, rfl⟩ := hp
      refine ⟨.func (.func f) #[] (caps.map a.eval), by simp [execOp, ho, Instr.makeFunc], ?_⟩
      have hc : (caps.map a.eval) = (caps.toList.map a.eval).toArray := Array.toList_inj.1 (by rw [Array.toList_map])
      rw [hc]
      refine .fn (by simp) fun k c u hk hu => ?_
      rw [List.getElem?_map] at hk hu
      cases hx : caps.toList[k]? with
      | none => rw [hx] at hk; cases hk
      | some x =>
        rw [hx] at hk hu
        simp only [Option.map_some, Option.some.injEq] at hk hu
        subst hk hu
        exact (St.ev_ok h x).strip (hob x (List.mem_of_getElem? hx))
    · cases hp

theorem pr_convert (hty : ∀ T d, lk T tys = some d → TyOk P T d) (h : Sim N X0 M w0 st β a w) {o : Oper} {S T : Nat} {x : Operand} (ho : o.op = .convert S T x) {ob : Prop} {r : SV}
    (hp : st.pr tys (.convert S T x) = some (ob, r)) (hob : ob) : Yl P (XX X0 β st.hp) β a w o r := by
  simp only [St.pr] at hp
  split at hp
  case h_1 _ _ _ e d k n he hd hx =>
    split at hp
    · rename_i hk
      split at hp
      · rename_i _ k' hik
        simp only [Option.some.injEq, Prod.mk.injEq] at hp
        obtain ⟨rfl, rfl⟩ := hp
        have e1 := (St.ev_strip h hx hob.1).v_inv
        obtain ⟨ks, _, hus⟩ := (hty S e he).int hk.1
        obtain ⟨kt, hkt, hut⟩ := (hty T d hd).int hk.2
        rw [hik] at hkt
        cases hkt
        exact ⟨_, by simp [execOp, ho, e1, convert, run_underlying hus, run_underlying hut, Conv.intToInt, wr_ok hob.2], .p (.v _)⟩
      · cases hp
    · cases hp
  case h_2 => cases hp

theorem slice_str {T : Nat} (hu : P.underlying T = some .string) (s : ByteArray) (lo hi : Option Value) (a b : Int) (hlo : lo = some (.int .i64 a) ∨ lo = none ∧ a = 0) (hhi : hi = some (.int .i64 b) ∨ hi = none ∧ b = s.size)
    (h0 : 0 ≤ a) (h1 : a ≤ b) (h2 : b ≤ (s.size : Int)) (w : World) : (Instr.sliceAt T (.string s) lo hi none).run P w = .ok (.string (s.extract a.toNat b.toNat)) w := by
  rcases hlo with rfl | ⟨rfl, rfl⟩ <;> rcases hhi with rfl | ⟨rfl, rfl⟩
  · have h3 : 0 ≤ b := by omega
    have h4 : a ≤ (b.toNat : Int) := by omega
    simp only [Instr.sliceAt, Instr.slice, Instr.sliceBounds, Instr.sliceBound, asIntOf, run_underlying hu, Sem.run_bind, Result.andThen_ok, Sem.run_pure, h0, h2, h3, h4, and_self, if_true, Option.isSome_none, Bool.false_eq_true, if_false]
  · simp [Instr.sliceAt, Instr.slice, Instr.sliceBounds, Instr.sliceBound, asIntOf, run_underlying hu, h0, h1]
  · have h3 : 0 ≤ b := by omega
    simp [Instr.sliceAt, Instr.slice, Instr.sliceBounds, Instr.sliceBound, asIntOf, run_underlying hu, h2, h3]
  · simp [Instr.sliceAt, Instr.slice, Instr.sliceBounds, Instr.sliceBound, asIntOf, run_underlying hu]

theorem pr_slice (hty : ∀ T d, lk T tys = some d → TyOk P T d) (h : Sim N X0 M w0 st β a w) {o : Oper} {T : Nat} {x : Operand} {lo hi mx : Option Operand} (ho : o.op = .slice T x lo hi mx) {ob : Prop} {r : SV}
    (hp : st.pr tys (.slice T x lo hi mx) = some (ob, r)) (hob : ob) : Yl P (XX X0 β st.hp) β a w o r := by
  cases mx with
  | some m => cases lo <;> cases hi <;> simp [St.pr] at hp
  | none =>
    cases lo with
    | some lo =>
      cases hi with
      | some hi =>
        simp only [St.pr] at hp
        split at hp
        case h_1 _ _ _ _ d s p q hd hx hl hh =>
          split at hp
          · rename_i hk
            simp only [Option.some.injEq, Prod.mk.injEq] at hp
            obtain ⟨rfl, rfl⟩ := hp
            obtain ⟨n1, n2, n3, g0, g1, g2⟩ := hob
            have e1 := (St.ev_strip h hx n1).v_inv
            have e2 := (St.ev_strip h hl n2).v_inv
            have e3 := (St.ev_strip h hh n3).v_inv
            exact ⟨_, by simp [execOp, ho, e1, e2, e3, slice_str ((hty T d hd).string hk) s (some (.int .i64 p)) (some (.int .i64 q)) p q (.inl rfl) (.inl rfl) g0 g1 g2], .p (.v _)⟩
          · cases hp
        case h_2 => cases hp
      | none =>
        simp only [St.pr] at hp
        split at hp
        case h_1 _ _ _ d s p hd hx hl =>
          split at hp
          · rename_i hk
            simp only [Option.some.injEq, Prod.mk.injEq] at hp
            obtain ⟨rfl, rfl⟩ := hp
            obtain ⟨n1, n2, g0, g1⟩ := hob
            have e1 := (St.ev_strip h hx n1).v_inv
            have e2 := (St.ev_strip h hl n2).v_inv
            exact ⟨_, by simp [execOp, ho, e1, e2, slice_str ((hty T d hd).string hk) s (some (.int .i64 p)) none p s.size (.inl rfl) (.inr ⟨rfl, rfl⟩) g0 g1 (Int.le_refl _)], .p (.v _)⟩
          · cases hp
        case h_2 => cases hp
    | none =>
      cases hi with
      | some hi =>
        simp only [St.pr] at hp
        split at hp
        case h_1 _ _ _ d s q hd hx hh =>
          split at hp
          · rename_i hk
            simp only [Option.some.injEq, Prod.mk.injEq] at hp
            obtain ⟨rfl, rfl⟩ := hp
            obtain ⟨n1, n3, g0, g1⟩ := hob
            have e1 := (St.ev_strip h hx n1).v_inv
            have e3 := (St.ev_strip h hh n3).v_inv
            exact ⟨_, by simp [execOp, ho, e1, e3, slice_str ((hty T d hd).string hk) s none (some (.int .i64 q)) 0 q (.inr ⟨rfl, rfl⟩) (.inl rfl) (Int.le_refl _) g0 g1], .p (.v _)⟩
          · cases hp
        case h_2 => cases hp
      | none => simp [St.pr] at hp

theorem len_ok {T : Nat} {x : Operand} {v : Value} {n : Nat} {o : Oper} {c : Call} (ho : o.op = .call c) (hc : c.callee = .builtin .len) (ha : c.args.toList = [x]) (hA : c.argTypes.toList = [T]) (he : a.eval x = v)
    (hr : (Builtin.len_ #[T] o.type #[v]).run P w = .ok (.int .i64 n) w) : (execOp a.eval o).run P w = .ok (.value (.int .i64 n)) w := by
  have e1 : c.args = #[x] := by rw [← Array.toArray_toList (xs := c.args), ha]
  have e2 : c.argTypes = #[T] := by rw [← Array.toArray_toList (xs := c.argTypes), hA]
  simp [execOp, ho, resolve, hc, e1, e2, invoke, builtin, he, hr]

theorem pr_len (hty : ∀ T d, lk T tys = some d → TyOk P T d) (h : Sim N X0 M w0 st β a w) {o : Oper} {T : Nat} {x : Operand} {c : Call} (ho : o.op = .call c) (hc : c.callee = .builtin .len) (ha : c.args.toList = [x]) (hA : c.argTypes.toList = [T]) {ob : Prop} {r : SV}
    (hp : st.prLen tys T x = some (ob, r)) (hob : ob) : Yl P (XX X0 β st.hp) β a w o r := by
  unfold St.prLen at hp
  split at hp
  case h_1 _ _ d s hd hx =>
    split at hp
    · rename_i hk
      simp only [Option.some.injEq, Prod.mk.injEq] at hp
      obtain ⟨rfl, rfl⟩ := hp
      have e1 := (St.ev_strip h hx hob).v_inv
      exact ⟨_, len_ok ho hc ha hA e1 (by simp [Builtin.len_, run_underlying ((hty T d hd).string hk), goInt]), .p (.v _)⟩
    · cases hp
  case h_2 _ _ d hd hx =>
    split at hp
    · rename_i hk
      simp only [Option.some.injEq, Prod.mk.injEq] at hp
      obtain ⟨rfl, rfl⟩ := hp
      have e1 := (St.ev_strip h hx hob).v_inv
      exact ⟨_, len_ok ho hc ha hA e1 (by simp [Builtin.len_, run_underlying ((hty T d hd).slice hk), goInt]), .p (.v _)⟩
    · cases hp
  case h_3 _ _ d s rows hd hx =>
    split at hp
    · rename_i hk
      simp only [Option.some.injEq, Prod.mk.injEq] at hp
      obtain ⟨rfl, rfl⟩ := hp
      rcases slice_form (St.ev_strip h hx hob).sl_inv with ⟨⟨pp, pc, e1⟩, rfl⟩ | ⟨b, off, cap, e1, _⟩
      · exact ⟨_, len_ok ho hc ha hA e1 (by simp [Builtin.len_, run_underlying ((hty T d hd).slice hk), goInt]), .p (.v _)⟩
      · exact ⟨_, len_ok ho hc ha hA e1 (by simp [Builtin.len_, run_underlying ((hty T d hd).slice hk), goInt]), .p (.v _)⟩
    · cases hp
  case h_4 _ _ d id hd hx =>
    split at hp
    · rename_i hk
      split at hp
      · rename_i _ e s rows hl
        simp only [Option.some.injEq, Prod.mk.injEq] at hp
        obtain ⟨rfl, rfl⟩ := hp
        have e0 := (St.ev_strip h hx hob).own_inv
        rcases own_form (h.objs id _ hl) with ⟨e1, rfl⟩ | ⟨b, cap, e1, _⟩
        · exact ⟨_, len_ok ho hc ha hA (e0.trans e1) (by simp [Builtin.len_, run_underlying ((hty T d hd).slice hk), goInt]), .p (.v _)⟩
        · exact ⟨_, len_ok ho hc ha hA (e0.trans e1) (by simp [Builtin.len_, run_underlying ((hty T d hd).slice hk), goInt]), .p (.v _)⟩
      · cases hp
    · cases hp
  case h_5 => cases hp

theorem pr_sound (hty : ∀ T d, lk T tys = some d → TyOk P T d) (h : Sim N X0 M w0 st β a w) {o : Oper} {op : Op} (ho : o.op = op) {ob : Prop} {r : SV}
    (hp : st.pr tys op = some (ob, r)) (hob : ob) : Yl P (XX X0 β st.hp) β a w o r := by
  cases op with
  | move x =>
    simp only [St.pr, Option.some.injEq, Prod.mk.injEq] at hp
    obtain ⟨_, rfl⟩ := hp
    exact ⟨_, by simp [execOp, ho], St.ev_ok h x⟩
  | assign x =>
    simp only [St.pr, Option.some.injEq, Prod.mk.injEq] at hp
    obtain ⟨_, rfl⟩ := hp
    exact ⟨_, by simp [execOp, ho], St.ev_ok h x⟩
  | pick c x y => exact pr_pick h ho hp hob
  | binOp op T x y U => exact pr_binOp hty h ho hp hob
  | unOp op T x => exact pr_unOp h ho hp hob
  | nilCheck x => exact pr_nilCheck h ho hp hob
  | fieldAddr T x f => exact pr_fieldAddr hty h ho hp hob
  | indexAddr T x ix => exact pr_indexAddr hty h ho hp hob
  | load T x => exact pr_load hty h ho hp hob
  | index T x ix => exact pr_index hty h ho hp hob
  | extract x i => exact pr_extract h ho hp hob
  | makeFunc fn first caps => exact pr_makeFunc h ho hp hob
  | convert S T x => exact pr_convert hty h ho hp hob
  | slice T x lo hi mx => exact pr_slice hty h ho hp hob
  | call c =>
    simp only [St.pr] at hp
    split at hp
    case h_1 _ hc =>
      split at hp
      case h_1 _ _ x T ha hA => exact pr_len hty h ho hc ha hA hp hob
      case h_2 => cases hp
    case h_2 => cases hp
  | _ => simp [St.pr] at hp
end
end Go.Vc
