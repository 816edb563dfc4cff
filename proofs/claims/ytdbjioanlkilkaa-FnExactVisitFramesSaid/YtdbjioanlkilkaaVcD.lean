/-
  DERIVED. As VcC, the other operations.
-/
import Derived.Test.YtdbjioanlkilkaaVcC
namespace Go.Vc
set_option linter.unusedVariables false
set_option linter.unusedSimpArgs false
section
variable {P : Program} {tys : List (Nat × TyD)} {N : Nat} {X0 : Nat → Prop} {M : Nat → BV → Prop} {w0 : World} {st : St} {β : Nat → BV} {a : Act} {w : World}

theorem ofAgg_R {X : Nat → Prop} {x : SV} {ds : List SV} {v : Value} (h : x.ofAgg = some ds) (hR : R w X β x v) : ∃ us : List Value, v = .agg us.toArray ∧ ds.length = us.length ∧ ∀ (k : Nat) (c : SV) (u : Value), ds[k]? = some c → us[k]? = some u → R w X β c u := by
  unfold SV.ofAgg at h
  split at h
  case h_1 cs => cases h; exact hR.agg_inv
  case h_2 us =>
    cases h
    have := hR.v_inv
    subst this
    refine ⟨us.toList, by simp, by simp, fun k c u hc hu => ?_⟩
    rw [List.getElem?_map, hu] at hc
    simp only [Option.map_some, Option.some.injEq] at hc
    subst hc
    exact .p (.v _)
  case h_3 => cases h

theorem vals_R {X : Nat → Prop} : ∀ {cs : List SV} {l us : List Value}, vals cs = some l → cs.length = us.length → (∀ (k : Nat) (c : SV) (u : Value), cs[k]? = some c → us[k]? = some u → R w X β c u) → us = l
  | [], l, us, h, hl, _ => by
    cases h
    exact List.eq_nil_of_length_eq_zero (by simpa using hl.symm)
  | c :: cs, l, us, h, hl, hR => by
    cases us with
    | nil => simp at hl
    | cons u us =>
      cases c with
      | v x =>
        simp only [vals] at h
        cases hq : vals cs with
        | none => rw [hq] at h; cases h
        | some l' =>
          rw [hq] at h
          cases h
          have e1 := (hR 0 _ _ rfl rfl).v_inv
          have e2 := vals_R hq (by simpa using hl) (fun k c u hc hu => hR (k + 1) c u (by simpa using hc) (by simpa using hu))
          rw [e1, e2]
      | _ => cases h

theorem pr_eq (hty : ∀ T d, lk T tys = some d → TyOk P T d) (h : Sim N X0 M w0 st β a w) {o : Oper} {op : BinOp} {T U : Nat} {x y : Operand} (ho : o.op = .binOp op T x y U) {ob : Prop} {r : SV}
    (hp : st.prEq tys op T x y = some (ob, r)) (hob : ob) : Yl P (XX X0 β st.hp) β a w o r := by
  unfold St.prEq at hp
  split at hp
  case h_2 => cases hp
  case h_1 _ _ _ d cs ds hd hx hy =>
    split at hp
    case h_2 => cases hp
    case h_1 _ _ l1 l2 hv1 hv2 =>
      have fin : ∀ {q : Bool}, eqCells l1 l2 = some q → (st.ev x).need → (st.ev y).need → d.eqs ≠ [] → l1.map Value.kd = d.eqs → l2.map Value.kd = d.eqs → (op = .eql ∨ op = .neq) → Yl P (XX X0 β st.hp) β a w o (.v (.bool (if op = .eql then q else !q))) := fun {q} he n1 n2 hne k1 k2 hop => by
        obtain ⟨u1, e1, ln1, c1⟩ := ofAgg_R hx (St.ev_strip h rfl n1)
        obtain ⟨u2, e2, ln2, c2⟩ := ofAgg_R hy (St.ev_strip h rfl n2)
        have f1 := vals_R hv1 ln1 c1
        have f2 := vals_R hv2 ln2 c2
        rw [f1] at e1
        rw [f2] at e2
        have hT := hty T d hd
        obtain ⟨h1, h2, h3⟩ := hT.cmp.resolve_left hne
        obtain ⟨fs, hu, _⟩ := hT.struct h3
        have hag : ∀ l, aggOf P T l = .agg l.toArray := fun l => by unfold aggOf; rw [hu]
        have hr := eqSh_ok P 6 T _ h1 10000 (by omega) w l1 l2 q k1 k2 he
        rw [hag, hag] at hr
        rcases hop with rfl | rfl
        · exact ⟨_, by simp [execOp, ho, e1, e2, run_eqGuard_agg w _ T x y _ _ h2, run_eql_struct w T, hr], .p (.v _)⟩
        · exact ⟨_, by simp [execOp, ho, e1, e2, run_eqGuard_agg w _ T x y _ _ h2, run_neq_struct w T, hr], .p (.v _)⟩
      split at hp
      case h_1 _ q he =>
        simp only [Option.some.injEq, Prod.mk.injEq] at hp
        obtain ⟨rfl, rfl⟩ := hp
        obtain ⟨n1, n2, n3, n4, n5⟩ := hob
        simpa using fin he n1 n2 n3 n4 n5 (.inl rfl)
      case h_2 _ q he =>
        simp only [Option.some.injEq, Prod.mk.injEq] at hp
        obtain ⟨rfl, rfl⟩ := hp
        obtain ⟨n1, n2, n3, n4, n5⟩ := hob
        simpa using fin he n1 n2 n3 n4 n5 (.inr rfl)
      case h_3 => cases hp

theorem pr_binOp (hty : ∀ T d, lk T tys = some d → TyOk P T d) (h : Sim N X0 M w0 st β a w) {o : Oper} {op : BinOp} {T U : Nat} {x y : Operand} (ho : o.op = .binOp op T x y U) {ob : Prop} {r : SV}
    (hp : st.pr tys (.binOp op T x y U) = some (ob, r)) (hob : ob) : Yl P (XX X0 β st.hp) β a w o r := by
  simp only [St.pr] at hp
  split at hp
  case h_1 _ _ p q hx hy =>
    split at hp
    case h_1 _ pp rr hs =>
      simp only [Option.some.injEq, Prod.mk.injEq] at hp
      obtain ⟨rfl, rfl⟩ := hp
      obtain ⟨h1, h2, h3⟩ := hob
      have e1 := (St.ev_strip h hx h1).v_inv
      have e2 := (St.ev_strip h hy h2).v_inv
      have hbl : ((lk T tys).map (·.kind) == some 5) = true → P.underlying T = some .bool := fun hb => by
        cases hd : lk T tys with
        | none => rw [hd] at hb; simp at hb
        | some d => rw [hd] at hb; exact (hty T d hd).bool (by simpa using hb)
      have hr := scal2_sound (P := P) hbl hs h3 x y w
      refine ⟨rr, ?_, .p (.v _)⟩
      simp only [Sem.run_bind] at hr
      simp only [execOp, ho, e1, e2, Sem.run_bind, hr, Result.andThen_ok, Sem.run_pure]
    case h_2 => exact pr_eq hty h ho hp hob
  case h_2 => exact pr_eq hty h ho hp hob

theorem pr_unOp (h : Sim N X0 M w0 st β a w) {o : Oper} {op : UnOp} {T : Nat} {x : Operand} (ho : o.op = .unOp op T x) {ob : Prop} {r : SV}
    (hp : st.pr tys (.unOp op T x) = some (ob, r)) (hob : ob) : Yl P (XX X0 β st.hp) β a w o r := by
  simp only [St.pr] at hp
  split at hp
  case h_1 _ p hx =>
    split at hp
    case h_1 _ pp rr hs =>
      simp only [Option.some.injEq, Prod.mk.injEq] at hp
      obtain ⟨rfl, rfl⟩ := hp
      obtain ⟨h1, h3⟩ := hob
      have e1 := (St.ev_strip h hx h1).v_inv
      have hr := scal1_sound (P := P) hs h3 w
      refine ⟨rr, ?_, .p (.v _)⟩
      simp only [execOp, ho, e1, Sem.run_bind, hr, Result.andThen_ok, Sem.run_pure]
    case h_2 => cases hp
  case h_2 => cases hp

theorem pr_pick (h : Sim N X0 M w0 st β a w) {o : Oper} {c x y : Operand} (ho : o.op = .pick c x y) {ob : Prop} {r : SV}
    (hp : st.pr tys (.pick c x y) = some (ob, r)) (hob : ob) : Yl P (XX X0 β st.hp) β a w o r := by
  simp only [St.pr] at hp
  split at hp
  case h_1 _ _ _ cv p q hc hx hy =>
    simp only [Option.some.injEq, Prod.mk.injEq] at hp
    obtain ⟨rfl, rfl⟩ := hp
    obtain ⟨hnc, hob⟩ := hob
    have ec := (St.ev_strip h hc hnc).v_inv
    cases cv with
    | true =>
      have e1 := (St.ev_strip h hx (hob.1 rfl)).v_inv
      exact ⟨.bool p, by simp [execOp, ho, ec, asBool, e1], .p (.v _)⟩
    | false =>
      have e1 := (St.ev_strip h hy (hob.2 rfl)).v_inv
      exact ⟨.bool q, by simp [execOp, ho, ec, asBool, e1], .p (.v _)⟩
  case h_2 => cases hp

theorem pr_nilCheck (h : Sim N X0 M w0 st β a w) {o : Oper} {x : Operand} (ho : o.op = .nilCheck x) {ob : Prop} {r : SV}
    (hp : st.pr tys (.nilCheck x) = some (ob, r)) (hob : ob) : Yl P (XX X0 β st.hp) β a w o r := by
  simp only [St.pr] at hp
  split at hp
  case h_1 _ id s i k hx =>
    simp only [Option.some.injEq, Prod.mk.injEq] at hp
    obtain ⟨rfl, rfl⟩ := hp
    have hr := St.ev_strip h hx hob
    obtain ⟨b, hb, e⟩ := hr.ptr_inv
    exact ⟨_, by simp [execOp, ho, e], e ▸ hr⟩
  case h_2 _ s rows i k hx =>
    simp only [Option.some.injEq, Prod.mk.injEq] at hp
    obtain ⟨rfl, rfl⟩ := hp
    have hr := St.ev_strip h hx hob
    obtain ⟨b, off, cap, hb, e⟩ := hr.rptr_inv
    exact ⟨_, by simp [execOp, ho, e], e ▸ hr⟩
  case h_3 => cases hp

theorem field_ok {T : Nat} {d : TyD} (hT : TyOk P T d) (hk : d.kind = 3) {f : Nat} {o : Nat × Nat} (hf : d.offs[f]? = some o) (ho : o.2 ≠ 0) (b off : Nat) (w : World) :
    (Instr.fieldAt T (.pointer (some ⟨b, off, none⟩)) f).run P w = .ok (.pointer (some ⟨b, off + o.1, none⟩)) w := by
  obtain ⟨fs, hu, hfs⟩ := hT.struct hk
  rw [← hfs, List.getElem?_map] at hf
  cases hff : fs.toList[f]? with
  | none => rw [hff] at hf; cases hf
  | some fd =>
    rw [hff] at hf
    simp only [Option.map_some, Option.some.injEq] at hf
    subst hf
    have hfa : fs[f]? = some fd := by simpa using hff
    cases hi : P.info? fd.type with
    | none => rw [hi] at ho; simp at ho
    | some i =>
      rw [hi] at ho
      have hsz : i.size ≠ 0 := by simpa using ho
      simp [Instr.fieldAt, run_underlying hu, hfa, Instr.sureAddr, fieldPlace, Go.sizeOf, typeInfo, hi, hsz, add_none]

theorem pr_fieldAddr (hty : ∀ T d, lk T tys = some d → TyOk P T d) (h : Sim N X0 M w0 st β a w) {o : Oper} {T f : Nat} {x : Operand} (ho : o.op = .fieldAddr T x f) {ob : Prop} {r : SV}
    (hp : st.pr tys (.fieldAddr T x f) = some (ob, r)) (hob : ob) : Yl P (XX X0 β st.hp) β a w o r := by
  simp only [St.pr] at hp
  split at hp
  case h_1 _ _ d id s i k hd hx =>
    split at hp
    · rename_i hk
      split at hp
      · rename_i _ off hf
        simp only [Option.some.injEq, Prod.mk.injEq] at hp
        obtain ⟨rfl, rfl⟩ := hp
        obtain ⟨b, hb, e⟩ := (St.ev_strip h hx hob.1).ptr_inv
        refine ⟨.pointer (some ⟨b, i * s + k + off.1, none⟩), by simp [execOp, ho, e, field_ok (hty T d hd) hk hf hob.2], ?_⟩
        have := R.ptr (w := w) (X := XX X0 β st.hp) (β := β) id s i (k + off.1) b hb
        simpa [Nat.add_assoc] using this
      · cases hp
    · cases hp
  case h_2 _ _ d s rows i k hd hx =>
    split at hp
    · rename_i hk
      split at hp
      · rename_i _ off hf
        simp only [Option.some.injEq, Prod.mk.injEq] at hp
        obtain ⟨rfl, rfl⟩ := hp
        obtain ⟨b, off', cap, hb, e⟩ := (St.ev_strip h hx hob.1).rptr_inv
        refine ⟨.pointer (some ⟨b, off' + (i * s + k) + off.1, none⟩), by simp [execOp, ho, e, field_ok (hty T d hd) hk hf hob.2], ?_⟩
        have := R.rptr (β := β) s rows i (k + off.1) b off' cap hb
        simpa [Nat.add_assoc] using this
      · cases hp
    · cases hp
  case h_3 => cases hp

theorem pr_index (hty : ∀ T d, lk T tys = some d → TyOk P T d) (h : Sim N X0 M w0 st β a w) {o : Oper} {T : Nat} {x ix : Operand} (ho : o.op = .index T x ix) {ob : Prop} {r : SV}
    (hp : st.pr tys (.index T x ix) = some (ob, r)) (hob : ob) : Yl P (XX X0 β st.hp) β a w o r := by
  simp only [St.pr] at hp
  split at hp
  case h_1 _ _ _ d s n hd hx hi =>
    split at hp
    · rename_i hk
      simp only [Option.some.injEq, Prod.mk.injEq] at hp
      obtain ⟨rfl, rfl⟩ := hp
      obtain ⟨h1, h2, h3, h4⟩ := hob
      have e1 := (St.ev_strip h hx h1).v_inv
      have e2 := (St.ev_strip h hi h2).v_inv
      have hlt : n.toNat < s.size := by omega
      have hg : s[n.toNat]? = some s[n.toNat]! := by rw [getElem?_pos s n.toNat hlt, getElem!_pos s n.toNat hlt]
      exact ⟨_, by simp [execOp, ho, e1, e2, Instr.index, asIntOf, run_underlying ((hty T d hd).string hk), h3, hg], .p (.v _)⟩
    · cases hp
  case h_2 => cases hp

theorem pr_extract (h : Sim N X0 M w0 st β a w) {o : Oper} {i : Nat} {x : Operand} (ho : o.op = .extract x i) {ob : Prop} {r : SV}
    (hp : st.pr tys (.extract x i) = some (ob, r)) (hob : ob) : Yl P (XX X0 β st.hp) β a w o r := by
  simp only [St.pr] at hp
  split at hp
  case h_1 _ cs hx =>
    split at hp
    · rename_i _ c hc
      simp only [Option.some.injEq, Prod.mk.injEq] at hp
      obtain ⟨rfl, rfl⟩ := hp
      obtain ⟨us, e, hl, hh⟩ := (St.ev_strip h hx hob).tup_inv
      have hi : i < us.length := by rw [← hl]; exact (List.getElem?_eq_some_iff.1 hc).1
      have hu : us[i]? = some (us[i]'hi) := List.getElem?_eq_getElem hi
      exact ⟨us[i]'hi, by simp [execOp, ho, e, Instr.extract, hu], hh i c _ hc hu⟩
    · cases hp
  case h_2 => cases hp

theorem pr_makeFunc (h : Sim N X0 M w0 st β a w) {o : Oper} {fn : Fn} {first caps : Array Operand} (ho : o.op = .makeFunc fn first caps) {ob : Prop} {r : SV}
    (hp : st.pr tys (.makeFunc fn first caps) = some (ob, r)) (hob : ob) : Yl P (XX X0 β st.hp) β a w o r := by
  cases fn <;> try (simp only [St.pr, reduceCtorEq] at hp; done)
  case func f =>
    simp only [St.pr] at hp
    split at hp
    · rename_i hfirst
      subst hfirst
      simp only [Option.some.injEq, Prod.mk.injEq] at hp
      obtain ⟨rfl, rfl⟩ := hp
      refine ⟨.func (.func f) #[] (caps.map a.eval), by simp [execOp, ho, Instr.makeFunc], ?_⟩
      have hc : (caps.map a.eval) = (caps.toList.map a.eval).toArray := Array.toList_inj.1 (by rw [Array.toList_map])
      rw [hc]
      refine .fn (by simp) fun k c u hk hu => ?_
      rw [List.getElem?_map] at hk hu
      cases hx : caps.toList[k]? with
      | none => rw [hx] at hk; cases hk
      | some x =>
        rw [hx] at hk hu
        simp only [Option.map_some, Option.some.injEq] at hk hu
        subst hk hu
        exact (St.ev_ok h x).strip (hob x (List.mem_of_getElem? hx))
    · cases hp

/-- what is a list, as cells -/
theorem rows_cells (h : Sim N X0 M w0 st β a w) {y : SV} {v : Value} {rows : List (List SV)} (hy : st.rowsOf y = some rows) (hR : R w (XX X0 β st.hp) β y v) (s : Nat) (hs : ∀ row ∈ rows, row.length = s) :
    ((∃ p cap, v = .slice p 0 cap) ∧ rows = []) ∨ ∃ b off cap, v = .slice (some ⟨b, off, none⟩) rows.length cap ∧ ∀ (i k : Nat) (row : List SV) (c : SV), rows[i]? = some row → row[k]? = some c → ∃ u, w.cell? ⟨b, off + (i * s + k), none⟩ = some u ∧ Rp w (XX X0 β st.hp) c u := by
  unfold St.rowsOf at hy
  split at hy
  case h_1 s' rows' =>
    cases hy
    have hp := hR.sl_inv
    cases hp with
    | nil s p cap => exact .inl ⟨⟨p, cap, rfl⟩, rfl⟩
    | sl b off cap us h1 h2 h3 h4 h5 h6 h7 =>
      refine .inr ⟨b, off, cap, rfl, fun i k row c hr hc => ?_⟩
      have e1 := h4 i row hr
      have e2 := hs row (List.mem_of_getElem? hr)
      exact ⟨us i k, by rw [← e2, e1]; exact h5 i k row c hr hc, h7 i k row c hr hc⟩
  case h_2 m =>
    split at hy
    · rename_i e s' rows' hl
      cases hy
      have hv := hR.own_inv
      have hO := h.objs m _ hl
      generalize β m = bv at hO hv
      subst hv
      cases hO with
      | nil e s h => exact .inl ⟨⟨_, _, congrArg BV.val h⟩, rfl⟩
      | sl b cap cur us hv hh h1 h2 h3 h4 h5 h6 h7 =>
        refine .inr ⟨b, 0, cap, congrArg BV.val hv, fun i k row c hr hc => ?_⟩
        have e1 := h4 i row hr
        have e2 := hs row (List.mem_of_getElem? hr)
        exact ⟨us i k, by simp only [World.cell?, hh, Nat.zero_add]; rw [← e2, e1]; exact h5 i k row c hr hc, h7 i k row c hr hc⟩
    · cases hy
  case h_3 => cases hy; exact .inl ⟨⟨_, _, hR.v_inv⟩, rfl⟩
  case h_4 => cases hy

theorem bytes_fold {P : Program} (w : World) (g : Value → ByteArray → Sem (ForInStep ByteArray)) (hg : ∀ n s, g (.int .u8 n) s = pure (.yield (s.push (UInt8.ofNat n.toNat)))) : ∀ (ns : List Int) (s : ByteArray), (forIn (m := Sem) (ns.map fun n => (Value.int .u8 n)) s g).run P w = .ok (⟨s.data ++ (ns.map fun n => UInt8.ofNat n.toNat).toArray⟩ : ByteArray) w
  | [], s => by simp
  | n :: ns, s => by
    simp only [List.map_cons, List.forIn_cons, Sem.run_bind, hg, Sem.run_pure, Result.andThen_ok]
    rw [bytes_fold w g hg ns]
    congr 1
    show ByteArray.mk ((s.push _).data ++ _) = _
    simp [ByteArray.push]

def intAt : Option (List SV) → Int
  | some [.v (.int _ n)] => n
  | _ => 0
theorem pr_str (hty : ∀ T d, lk T tys = some d → TyOk P T d) (h : Sim N X0 M w0 st β a w) {o : Oper} {S T : Nat} {x : Operand} (ho : o.op = .convert S T x) {e d : TyD} (he : lk S tys = some e) (hd : lk T tys = some d) {ob : Prop} {r : SV}
    (hp : st.prStr tys e d x = some (ob, r)) (hob : ob) : Yl P (XX X0 β st.hp) β a w o r := by
  unfold St.prStr at hp
  split at hp
  case h_2 => cases hp
  case h_1 _ rows hr =>
    split at hp
    case isFalse => cases hp
    case isTrue hk =>
      simp only [Option.some.injEq, Prod.mk.injEq] at hp
      obtain ⟨rfl, rfl⟩ := hp
      obtain ⟨n1, n2, n3⟩ := hob
      have hS := (hty S e he).slice hk.1
      have hT := (hty T d hd).string hk.2
      cases hq : lk e.elem tys with
      | none => rw [hq] at n2; cases n2
      | some q =>
        rw [hq] at n2
        simp only [Option.map_some, Option.some.injEq, Prod.mk.injEq] at n2
        obtain ⟨k, hk1, hE⟩ := (hty _ q hq).int n2.1
        rw [n2.2.1] at hk1
        cases hk1
        have hlen : ∀ row ∈ rows, row.length = 1 := fun row hrow => by obtain ⟨n, rfl⟩ := n3 row hrow; rfl
        have hev := (St.ev_ok h x).strip n1
        have hbase : ∀ p l c, a.eval x = .slice p l c → (Conv.bytesToString (.slice p l c)).run P w = .ok (.string (strOf rows)) w → Yl P (XX X0 β st.hp) β a w o (.v (.string (strOf rows))) := fun p l c hv hrun =>
          ⟨_, by simp [execOp, ho, hv, convert, run_underlying hS, run_underlying hT, run_underlying hE, hrun], .p (.v _)⟩
        rcases rows_cells h hr hev 1 hlen with ⟨⟨p, cap, hv⟩, rfl⟩ | ⟨b, off, cap, hv, hc⟩
        · refine hbase _ _ _ hv ?_
          cases p with
          | none => simp [Conv.bytesToString, strOf]; rfl
          | some ad => simp [Conv.bytesToString, strOf, loadCells, loadCellsFrom]; rfl
        · refine hbase _ _ _ hv ?_
          let f : Nat → Value := fun i => (w.cell? ⟨b, off + i, none⟩).getD undef
          have hf : ∀ i, i < rows.length → ∃ n, rows[i]? = some [.v (.int .u8 n)] ∧ f i = .int .u8 n ∧ w.cell? ((⟨b, off, none⟩ : Addr).add i) = some (f i) := fun i hi => by
            have hri : rows[i]? = some (rows[i]'hi) := List.getElem?_eq_getElem hi
            obtain ⟨n, hn⟩ := n3 _ (List.getElem_mem hi)
            rw [hn] at hri
            obtain ⟨u, hu, hR⟩ := hc i 0 _ _ hri rfl
            have hu' : u = .int .u8 n := by cases hR; rfl
            subst hu'
            have : off + (i * 1 + 0) = off + i := by omega
            rw [this] at hu
            refine ⟨n, hri, by simp [f, hu], by rw [add_none, hu]; simp [f, hu]⟩
          have hload := run_loadCells (P := P) w ⟨b, off, none⟩ rows.length f (fun i hi => (hf i hi).choose_spec.2.2)
          have hns : ∃ ns : List Int, (List.range rows.length).map f = ns.map (fun n => Value.int .u8 n) ∧ rows.map byteOf = ns.map fun n => UInt8.ofNat n.toNat := by
            refine ⟨(List.range rows.length).map fun i => intAt rows[i]?, ?_, ?_⟩
            · rw [List.map_map]
              apply List.map_congr_left
              intro i hi
              obtain ⟨n, h1, h2, _⟩ := hf i (List.mem_range.1 hi)
              simp [h1, h2, intAt]
            · apply List.ext_getElem?
              intro i
              rw [List.map_map, List.getElem?_map, List.getElem?_map]
              rcases Nat.lt_or_ge i rows.length with hi | hi
              · obtain ⟨n, h1, _⟩ := hf i hi
                rw [List.getElem?_range hi]
                simp [h1, byteOf, intAt]
              · rw [List.getElem?_eq_none hi, List.getElem?_eq_none (by simpa using hi)]
                rfl
          obtain ⟨ns, e1, e2⟩ := hns
          simp only [Conv.bytesToString, Sem.run_bind, hload, Result.andThen_ok]
          rw [show (((List.range rows.length).map f).toArray) = (ns.map (fun n => Value.int .u8 n)).toArray by rw [e1]]
          rw [List.forIn_toArray, bytes_fold (P := P) w _ (fun n s => rfl) ns ByteArray.empty]
          simp [strOf, e2]

theorem pr_convert (hty : ∀ T d, lk T tys = some d → TyOk P T d) (h : Sim N X0 M w0 st β a w) {o : Oper} {S T : Nat} {x : Operand} (ho : o.op = .convert S T x) {ob : Prop} {r : SV}
    (hp : st.pr tys (.convert S T x) = some (ob, r)) (hob : ob) : Yl P (XX X0 β st.hp) β a w o r := by
  simp only [St.pr] at hp
  split at hp
  case h_1 _ _ _ e d k n he hd hx =>
    split at hp
    · rename_i hk
      split at hp
      · rename_i _ k' hik
        simp only [Option.some.injEq, Prod.mk.injEq] at hp
        obtain ⟨rfl, rfl⟩ := hp
        have e1 := (St.ev_strip h hx hob.1).v_inv
        obtain ⟨ks, _, hus⟩ := (hty S e he).int hk.1
        obtain ⟨kt, hkt, hut⟩ := (hty T d hd).int hk.2
        rw [hik] at hkt
        cases hkt
        exact ⟨_, by simp [execOp, ho, e1, convert, run_underlying hus, run_underlying hut, Conv.intToInt, wr_ok hob.2], .p (.v _)⟩
      · cases hp
    · cases hp
  case h_2 _ _ _ e d he hd _ => exact pr_str hty h ho he hd hp hob
  case h_3 => cases hp

theorem slice_str {T : Nat} (hu : P.underlying T = some .string) (s : ByteArray) (lo hi : Option Value) (a b : Int) (hlo : lo = some (.int .i64 a) ∨ lo = none ∧ a = 0) (hhi : hi = some (.int .i64 b) ∨ hi = none ∧ b = s.size)
    (h0 : 0 ≤ a) (h1 : a ≤ b) (h2 : b ≤ (s.size : Int)) (w : World) : (Instr.sliceAt T (.string s) lo hi none).run P w = .ok (.string (s.extract a.toNat b.toNat)) w := by
  rcases hlo with rfl | ⟨rfl, rfl⟩ <;> rcases hhi with rfl | ⟨rfl, rfl⟩
  · have h3 : 0 ≤ b := by omega
    have h4 : a ≤ (b.toNat : Int) := by omega
    simp only [Instr.sliceAt, Instr.slice, Instr.sliceBounds, Instr.sliceBound, asIntOf, run_underlying hu, Sem.run_bind, Result.andThen_ok, Sem.run_pure, h0, h2, h3, h4, and_self, if_true, Option.isSome_none, Bool.false_eq_true, if_false]
  · simp [Instr.sliceAt, Instr.slice, Instr.sliceBounds, Instr.sliceBound, asIntOf, run_underlying hu, h0, h1]
  · have h3 : 0 ≤ b := by omega
    simp [Instr.sliceAt, Instr.slice, Instr.sliceBounds, Instr.sliceBound, asIntOf, run_underlying hu, h2, h3]
  · simp [Instr.sliceAt, Instr.slice, Instr.sliceBounds, Instr.sliceBound, asIntOf, run_underlying hu]

theorem cutR_eq (rows : List (List SV)) (a b : Option Int) (h0 : 0 ≤ a.getD 0) (h1 : a.getD 0 ≤ b.getD rows.length) (h2 : b.getD rows.length ≤ (rows.length : Int)) :
    cutR rows a b = (rows.take (b.getD rows.length).toNat).drop (a.getD 0).toNat := by
  cases a <;> cases b <;> simp [cutR]
theorem slice_rows {T e s : Nat} (hu : P.underlying T = some (.slice e)) (hs : ∀ w, (Go.sizeOf e).run P w = .ok s w) (p : Option Addr) (n cap : Nat) (hnc : n ≤ cap) (lo hi : Option Value) (a b : Int) (hlo : lo = some (.int .i64 a) ∨ lo = none ∧ a = 0) (hhi : hi = some (.int .i64 b) ∨ hi = none ∧ b = n)
    (h0 : 0 ≤ a) (h1 : a ≤ b) (h2 : b ≤ (n : Int)) (w : World) : (Instr.sliceAt T (.slice p n cap) lo hi none).run P w = .ok (.slice (if cap = a.toNat then p else p.map (·.add (a.toNat * s))) (b.toNat - a.toNat) (cap - a.toNat)) w := by
  have h3 : 0 ≤ b := by omega
  have h4 : b ≤ (cap : Int) := by omega
  have h5 : a ≤ (b.toNat : Int) := by omega
  rcases hlo with rfl | ⟨rfl, rfl⟩ <;> rcases hhi with rfl | ⟨rfl, rfl⟩
  · simp [Instr.sliceAt, Instr.slice, Instr.sliceBounds, Instr.sliceBound, asIntOf, run_underlying hu, hs, h0, h3, h4, h5]
    intro hh; omega
  · simp [Instr.sliceAt, Instr.slice, Instr.sliceBounds, Instr.sliceBound, asIntOf, run_underlying hu, hs, h0, h1]
  · simp [Instr.sliceAt, Instr.slice, Instr.sliceBounds, Instr.sliceBound, asIntOf, run_underlying hu, hs, h3, h4]
  · simp [Instr.sliceAt, Instr.slice, Instr.sliceBounds, Instr.sliceBound, asIntOf, run_underlying hu, hs]
theorem St.bnd_ok (h : Sim N X0 M w0 st β a w) {o : Option Operand} {p : Prop} {n : Option Int} (hb : st.bnd o = some (p, n)) (hp : p) : (∃ y k, o = some y ∧ n = some k ∧ a.eval y = .int .i64 k) ∨ o = none ∧ n = none := by
  unfold St.bnd at hb
  split at hb
  · cases hb; exact .inr ⟨rfl, rfl⟩
  · split at hb
    · rename_i y _ k hk
      cases hb
      exact .inl ⟨y, k, rfl, rfl, (St.ev_strip h hk hp).v_inv⟩
    · cases hb
theorem pr_cut (hty : ∀ T d, lk T tys = some d → TyOk P T d) (h : Sim N X0 M w0 st β a w) {o : Oper} {T : Nat} {x : Operand} {lo hi : Option Operand} (ho : o.op = .slice T x lo hi none) {ob : Prop} {r : SV}
    (hp : st.prCut tys T x lo hi = some (ob, r)) (hob : ob) : Yl P (XX X0 β st.hp) β a w o r := by
  unfold St.prCut at hp
  split at hp
  case h_2 => cases hp
  case h_1 _ _ d s rows hd hx =>
    split at hp
    case h_2 => cases hp
    case h_1 _ _ p av q bv hb1 hb2 =>
      split at hp
      case isFalse => cases hp
      case isTrue hk =>
        simp only [Option.some.injEq, Prod.mk.injEq] at hp
        obtain ⟨rfl, rfl⟩ := hp
        obtain ⟨n1, n2, n3, n4, g0, g1, g2⟩ := hob
        cases he : lk d.elem tys with
        | none => rw [he] at n4; cases n4
        | some de =>
          rw [he] at n4
          have hs : de.size = s := by simpa using n4
          have hT := (hty T d hd).slice hk
          have hS : ∀ w, (Go.sizeOf d.elem).run P w = .ok s w := fun w => by rw [← hs]; exact (hty _ de he).sizeOf w
          have hR := (St.ev_strip h hx n1).sl_inv
          rw [cutR_eq rows av bv g0 g1 g2]
          generalize hA : av.getD 0 = A at g0 g1
          generalize hB : bv.getD rows.length = B at g1 g2
          have l1 : lo.map a.eval = some (.int .i64 A) ∨ lo.map a.eval = none ∧ A = 0 := by
            rcases St.bnd_ok h hb1 n2 with ⟨y, k, rfl, rfl, e⟩ | ⟨rfl, rfl⟩
            · left; simp [e, ← hA]
            · right; exact ⟨rfl, by simpa using hA.symm⟩
          have l2 : hi.map a.eval = some (.int .i64 B) ∨ hi.map a.eval = none ∧ B = rows.length := by
            rcases St.bnd_ok h hb2 n3 with ⟨y, k, rfl, rfl, e⟩ | ⟨rfl, rfl⟩
            · left; simp [e, ← hB]
            · right; exact ⟨rfl, by simpa using hB.symm⟩
          have fin : ∀ {p n cap}, a.eval x = .slice p n cap → n ≤ cap → n = rows.length → Rp w (XX X0 β st.hp) (.sl s ((rows.take B.toNat).drop A.toNat)) (.slice (if cap = A.toNat then p else p.map (·.add (A.toNat * s))) (B.toNat - A.toNat) (cap - A.toNat)) → Yl P (XX X0 β st.hp) β a w o (.sl s ((rows.take B.toNat).drop A.toNat)) := fun {p n cap} hv hnc hn hr => by
            subst hn
            refine ⟨_, ?_, .p hr⟩
            have := slice_rows hT hS p rows.length cap hnc (lo.map a.eval) (hi.map a.eval) A B l1 l2 g0 g1 g2 w
            simp [execOp, ho, hv, this]
          generalize hev : a.eval x = v at hR fin
          cases hR with
          | nil s p cap =>
            have e0 : A.toNat = 0 := by simp at g2; omega
            have e1 : B.toNat = 0 := by simp at g2; omega
            refine fin rfl (Nat.zero_le _) rfl ?_
            rw [e0, e1]
            exact .nil s _ _
          | sl b off cap us h1 h2 h3 h4 h5 h6 h7 =>
            refine fin rfl h3 rfl ?_
            rcases Nat.lt_or_ge A.toNat B.toNat with hlt | hge
            · have hne : cap ≠ A.toNat := by omega
              rw [if_neg hne]
              have hlen : ((rows.take B.toNat).drop A.toNat).length = B.toNat - A.toNat := by simp; omega
              have hget : ∀ (i : Nat) (row : List SV), ((rows.take B.toNat).drop A.toNat)[i]? = some row → rows[A.toNat + i]? = some row := fun i row hr => by
                rw [List.getElem?_drop, List.getElem?_take] at hr
                split at hr
                · exact hr
                · cases hr
              have := Rp.sl (w := w) (X := XX X0 β st.hp) (s := s) (rows := (rows.take B.toNat).drop A.toNat) b (off + A.toNat * s) (cap - A.toNat) (fun i k => us (A.toNat + i) k) h1 h2 (by omega) (fun i row hr => h4 _ row (hget i row hr))
                (fun i k row c hr hc => by
                  have := h5 _ k row c (hget i row hr) hc
                  rw [Nat.add_mul] at this
                  rw [show off + A.toNat * s + (i * s + k) = off + (A.toNat * s + i * s + k) by omega]
                  exact this) (fun i k row c hr hc => h6 _ k row c (hget i row hr) hc) (fun i k row c hr hc => h7 _ k row c (hget i row hr) hc)
              rw [hlen] at this
              simp only [Option.map_some, add_none]
              exact this
            · have e1 : (rows.take B.toNat).drop A.toNat = [] := List.drop_eq_nil_of_le (by simp; omega)
              have e2 : B.toNat - A.toNat = 0 := by omega
              rw [e1, e2]
              exact .nil s _ _

theorem pr_min (h : Sim N X0 M w0 st β a w) {o : Oper} {mx : Bool} {x y : Operand} {c : Call} (ho : o.op = .call c) (hc : c.callee = .builtin (if mx then .max else .min)) (ha : c.args.toList = [x, y]) {ob : Prop} {r : SV}
    (hp : st.prMin mx x y = some (ob, r)) (hob : ob) : Yl P (XX X0 β st.hp) β a w o r := by
  unfold St.prMin at hp
  split at hp
  case h_2 => cases hp
  case h_1 _ _ p q hx hy =>
    simp only [Option.some.injEq, Prod.mk.injEq] at hp
    obtain ⟨rfl, rfl⟩ := hp
    have e1 := (St.ev_strip h hx hob.1).v_inv
    have e2 := (St.ev_strip h hy hob.2).v_inv
    have e3 : c.args = #[x, y] := by rw [← Array.toArray_toList (xs := c.args), ha]
    refine ⟨_, ?_, .p (.v _)⟩
    cases mx <;> simp [execOp, ho, resolve, hc, e3, invoke, builtin, e1, e2, Builtin.min_, Builtin.max_, Builtin.min2, Builtin.max2] <;> split <;> rfl

theorem bld_ok (h : Sim N X0 M w0 st β a w) {offs : List (Nat × Nat)} {place : Nat → Option (Nat × Nat)} (hpl : ∀ f o, offs[f]? = some o → place f = some o) : ∀ (l : List (Nat × Operand)) (cs : List SV) (cur : Array Value) (p : Prop) (r : List SV), st.bld offs l cs = some (p, r) → p → cs.length = cur.size →
    (∀ (k : Nat) (c : SV) (u : Value), cs[k]? = some c → cur[k]? = some u → R w (XX X0 β st.hp) β c u) →
    ∃ cells, Instr.fill place cur (l.map fun q => (q.1, a.eval q.2)) = some cells ∧ r.length = cells.size ∧ ∀ (k : Nat) (c : SV) (u : Value), r[k]? = some c → cells[k]? = some u → R w (XX X0 β st.hp) β c u
  | [], cs, cur, p, r, hb, _, hl, hc => by
    simp only [St.bld, Option.some.injEq, Prod.mk.injEq] at hb
    obtain ⟨_, rfl⟩ := hb
    exact ⟨cur, rfl, hl, hc⟩
  | (f, x) :: l, cs, cur, p, r, hb, hp, hl, hc => by
    simp only [St.bld] at hb
    split at hb
    case h_2 => cases hb
    case h_1 _ off hoff =>
      split at hb
      case h_2 => cases hb
      case h_1 _ p' r' hb' =>
        simp only [Option.some.injEq, Prod.mk.injEq] at hb
        obtain ⟨rfl, rfl⟩ := hb
        obtain ⟨n1, n2, n3, n4, n5⟩ := hp
        have hR := (St.ev_ok h x).strip n1
        obtain ⟨hs, hcc⟩ := hR.cells h.beta n4
        have hle : off.1 + (a.eval x).cells.size ≤ cur.size := by rw [hs, n2, ← hl]; exact n3
        have hfl := fill_fold off.1 (a.eval x).cells cur hle
        obtain ⟨cells, e1, e2, e3⟩ := bld_ok h hpl l (splice cs off.1 (st.ev x).strip.cells) ((a.eval x).cells.zipIdx.foldl (fun cs (c, j) => cs.setIfInBounds (off.1 + j) c) cur) p' r' hb' n5 (by
          have := congrArg List.length hfl
          rw [Array.length_toList] at this
          rw [this]
          simp only [splice, List.length_append, List.length_take, List.length_drop, Array.length_toList]
          omega) (fun k c u hk hu => by
          rw [← Array.getElem?_toList, hfl] at hu
          unfold splice at hk
          rw [splice_get _ _ _ _ (by omega)] at hk
          have e5 : off.1 + (a.eval x).cells.size = off.1 + (a.eval x).cells.toList.length := by simp
          rw [e5, splice_get _ _ _ _ (by simpa using hle)] at hu
          rw [Array.length_toList, hs] at hu
          by_cases h1 : k < off.1
          · rw [if_pos h1] at hk hu
            rw [Array.getElem?_toList] at hu
            exact hc k c u hk hu
          · rw [if_neg h1] at hk hu
            by_cases h2 : k < off.1 + (st.ev x).strip.cells.length
            · rw [if_pos h2] at hk hu
              rw [Array.getElem?_toList] at hu
              exact hcc _ c u hk hu
            · rw [if_neg h2] at hk hu
              rw [Array.getElem?_toList] at hu
              exact hc k c u hk hu)
        refine ⟨cells, ?_, e2, e3⟩
        simp only [List.map_cons, Instr.fill, hpl f off hoff]
        rw [if_neg (by rw [hs, n2]; simp; omega)]
        exact e1

theorem places_run {fs : Array Field} (hz : ∀ f ∈ fs.toList, (P.info? f.type).isSome = true) (w : World) : (fs.mapM fun f => do pure (f.offset, ← Go.sizeOf f.type) : Sem (Array (Nat × Nat))).run P w = .ok ((fs.toList.map fun f => (f.offset, ((P.info? f.type).map (·.size)).getD 0)).toArray) w := by
  obtain ⟨l⟩ := fs
  simp only [List.mapM_toArray, Sem.run_map] at hz ⊢
  have key : ∀ l : List Field, (∀ f ∈ l, (P.info? f.type).isSome = true) → (l.mapM fun f => do pure (f.offset, ← Go.sizeOf f.type) : Sem (List (Nat × Nat))).run P w = .ok (l.map fun f => (f.offset, ((P.info? f.type).map (·.size)).getD 0)) w := by
    intro l
    induction l with
    | nil => intro _; simp
    | cons f l ih =>
      intro hz
      have h1 := hz f List.mem_cons_self
      cases hi : P.info? f.type with
      | none => rw [hi] at h1; cases h1
      | some i =>
        have hs : (Go.sizeOf f.type).run P w = .ok i.size w := by simp [Go.sizeOf, typeInfo, hi]
        simp only [List.mapM_cons, Sem.run_bind, hs, Result.andThen_ok, Sem.run_pure, ih (fun g hg => hz g (List.mem_cons_of_mem _ hg)), List.map_cons, hi, Option.map_some, Option.getD_some]
  rw [key l hz]
  rfl

theorem pr_build (hty : ∀ T d, lk T tys = some d → TyOk P T d) (h : Sim N X0 M w0 st β a w) {o : Oper} {T : Nat} {parts : Array (Nat × Operand)} (ho : o.op = .build T parts) {ob : Prop} {r : SV}
    (hp : st.pr tys (.build T parts) = some (ob, r)) (hob : ob) : Yl P (XX X0 β st.hp) β a w o r := by
  simp only [St.pr] at hp
  split at hp
  case h_2 => cases hp
  case h_1 _ d hd =>
    split at hp
    case isFalse => cases hp
    case isTrue hk =>
      split at hp
      case h_2 => cases hp
      case h_1 _ p r' hb =>
        simp only [Option.some.injEq, Prod.mk.injEq] at hp
        obtain ⟨rfl, rfl⟩ := hp
        have hT := hty T d hd
        obtain ⟨fs, hu, hfs⟩ := hT.struct hk
        obtain ⟨zv, hz, hzc⟩ := hT.zero w
        have hsome : ∀ f ∈ fs.toList, (P.info? f.type).isSome = true := fun f hf => by
          have : (f.offset, ((P.info? f.type).map (·.size)).getD 0) ∈ d.offs := by rw [← hfs]; exact List.mem_map.2 ⟨f, hf, rfl⟩
          have := List.all_eq_true.1 hob.2 _ this
          cases hi : P.info? f.type with
          | none => rw [hi] at this; simp at this
          | some i => rfl
        have hpr := places_run hsome w
        rw [hfs] at hpr
        obtain ⟨cells, e1, e2, e3⟩ := bld_ok h (offs := d.offs) (place := fun f => d.offs.toArray[f]?) (fun f o hf => by simpa using hf) parts.toList (d.z.map .v) zv.cells p r' hb hob.1 (by rw [← hzc]; simp) (fun k c u hc hu => by
          rw [← hzc, List.getElem?_map, Array.getElem?_toList, hu] at hc
          simp only [Option.map_some, Option.some.injEq] at hc
          subst hc
          exact .p (.v _))
        have hparts : (parts.map fun x => (x.1, a.eval x.2)).toList = parts.toList.map fun p => (p.1, a.eval p.2) := by simp
        refine ⟨.agg cells, ?_, ?_⟩
        · simp only [execOp, ho, Instr.build, Sem.run_bind, hz, Result.andThen_ok, run_underlying hu, hpr, hparts, e1, Sem.run_pure]
        · have : cells = cells.toList.toArray := by simp
          rw [this]
          exact .agg (by simpa using e2) (fun k c u hc hu => e3 k c u hc (by simpa using hu))

theorem pr_slice (hty : ∀ T d, lk T tys = some d → TyOk P T d) (h : Sim N X0 M w0 st β a w) {o : Oper} {T : Nat} {x : Operand} {lo hi mx : Option Operand} (ho : o.op = .slice T x lo hi mx) {ob : Prop} {r : SV}
    (hp : st.pr tys (.slice T x lo hi mx) = some (ob, r)) (hob : ob) : Yl P (XX X0 β st.hp) β a w o r := by
  cases mx with
  | some m => cases lo <;> cases hi <;> simp [St.pr] at hp
  | none =>
    cases lo with
    | some lo =>
      cases hi with
      | some hi =>
        simp only [St.pr] at hp
        split at hp
        case h_1 _ _ _ _ d s p q hd hx hl hh =>
          split at hp
          · rename_i hk
            simp only [Option.some.injEq, Prod.mk.injEq] at hp
            obtain ⟨rfl, rfl⟩ := hp
            obtain ⟨n1, n2, n3, g0, g1, g2⟩ := hob
            have e1 := (St.ev_strip h hx n1).v_inv
            have e2 := (St.ev_strip h hl n2).v_inv
            have e3 := (St.ev_strip h hh n3).v_inv
            exact ⟨_, by simp [execOp, ho, e1, e2, e3, slice_str ((hty T d hd).string hk) s (some (.int .i64 p)) (some (.int .i64 q)) p q (.inl rfl) (.inl rfl) g0 g1 g2], .p (.v _)⟩
          · cases hp
        case h_2 => exact pr_cut hty h ho hp hob
      | none =>
        simp only [St.pr] at hp
        split at hp
        case h_1 _ _ _ d s p hd hx hl =>
          split at hp
          · rename_i hk
            simp only [Option.some.injEq, Prod.mk.injEq] at hp
            obtain ⟨rfl, rfl⟩ := hp
            obtain ⟨n1, n2, g0, g1⟩ := hob
            have e1 := (St.ev_strip h hx n1).v_inv
            have e2 := (St.ev_strip h hl n2).v_inv
            exact ⟨_, by simp [execOp, ho, e1, e2, slice_str ((hty T d hd).string hk) s (some (.int .i64 p)) none p s.size (.inl rfl) (.inr ⟨rfl, rfl⟩) g0 g1 (Int.le_refl _)], .p (.v _)⟩
          · cases hp
        case h_2 => exact pr_cut hty h ho hp hob
    | none =>
      cases hi with
      | some hi =>
        simp only [St.pr] at hp
        split at hp
        case h_1 _ _ _ d s q hd hx hh =>
          split at hp
          · rename_i hk
            simp only [Option.some.injEq, Prod.mk.injEq] at hp
            obtain ⟨rfl, rfl⟩ := hp
            obtain ⟨n1, n3, g0, g1⟩ := hob
            have e1 := (St.ev_strip h hx n1).v_inv
            have e3 := (St.ev_strip h hh n3).v_inv
            exact ⟨_, by simp [execOp, ho, e1, e3, slice_str ((hty T d hd).string hk) s none (some (.int .i64 q)) 0 q (.inr ⟨rfl, rfl⟩) (.inl rfl) (Int.le_refl _) g0 g1], .p (.v _)⟩
          · cases hp
        case h_2 => exact pr_cut hty h ho hp hob
      | none => exact pr_cut hty h ho hp hob

theorem len_ok {T : Nat} {x : Operand} {v : Value} {n : Nat} {o : Oper} {c : Call} (ho : o.op = .call c) (hc : c.callee = .builtin .len) (ha : c.args.toList = [x]) (hA : c.argTypes.toList = [T]) (he : a.eval x = v)
    (hr : (Builtin.len_ #[T] o.type #[v]).run P w = .ok (.int .i64 n) w) : (execOp a.eval o).run P w = .ok (.value (.int .i64 n)) w := by
  have e1 : c.args = #[x] := by rw [← Array.toArray_toList (xs := c.args), ha]
  have e2 : c.argTypes = #[T] := by rw [← Array.toArray_toList (xs := c.argTypes), hA]
  simp [execOp, ho, resolve, hc, e1, e2, invoke, builtin, he, hr]

theorem pr_len (hty : ∀ T d, lk T tys = some d → TyOk P T d) (h : Sim N X0 M w0 st β a w) {o : Oper} {T : Nat} {x : Operand} {c : Call} (ho : o.op = .call c) (hc : c.callee = .builtin .len) (ha : c.args.toList = [x]) (hA : c.argTypes.toList = [T]) {ob : Prop} {r : SV}
    (hp : st.prLen tys T x = some (ob, r)) (hob : ob) : Yl P (XX X0 β st.hp) β a w o r := by
  unfold St.prLen at hp
  split at hp
  case h_1 _ _ d s hd hx =>
    split at hp
    · rename_i hk
      simp only [Option.some.injEq, Prod.mk.injEq] at hp
      obtain ⟨rfl, rfl⟩ := hp
      have e1 := (St.ev_strip h hx hob).v_inv
      exact ⟨_, len_ok ho hc ha hA e1 (by simp [Builtin.len_, run_underlying ((hty T d hd).string hk), goInt]), .p (.v _)⟩
    · cases hp
  case h_2 _ _ d hd hx =>
    split at hp
    · rename_i hk
      simp only [Option.some.injEq, Prod.mk.injEq] at hp
      obtain ⟨rfl, rfl⟩ := hp
      have e1 := (St.ev_strip h hx hob).v_inv
      exact ⟨_, len_ok ho hc ha hA e1 (by simp [Builtin.len_, run_underlying ((hty T d hd).slice hk), goInt]), .p (.v _)⟩
    · cases hp
  case h_3 _ _ d s rows hd hx =>
    split at hp
    · rename_i hk
      simp only [Option.some.injEq, Prod.mk.injEq] at hp
      obtain ⟨rfl, rfl⟩ := hp
      rcases slice_form (St.ev_strip h hx hob).sl_inv with ⟨⟨pp, pc, e1⟩, rfl⟩ | ⟨b, off, cap, e1, _⟩
      · exact ⟨_, len_ok ho hc ha hA e1 (by simp [Builtin.len_, run_underlying ((hty T d hd).slice hk), goInt]), .p (.v _)⟩
      · exact ⟨_, len_ok ho hc ha hA e1 (by simp [Builtin.len_, run_underlying ((hty T d hd).slice hk), goInt]), .p (.v _)⟩
    · cases hp
  case h_4 _ _ d id hd hx =>
    split at hp
    · rename_i hk
      have go : ∀ {ob' : Ob} {s n' : Nat}, lk id st.hp = some ob' → ob'.shp = some (s, n') → (st.ev x).need → Yl P (XX X0 β st.hp) β a w o (.v (.int .i64 n')) := fun {ob' s n'} hl hsh hn => by
        have e0 := (St.ev_strip h hx hn).own_inv
        rcases (h.objs id _ hl).shp hsh with ⟨e1, rfl⟩ | ⟨b, cap, e1, _⟩
        · exact ⟨_, len_ok ho hc ha hA (e0.trans e1) (by simp [Builtin.len_, run_underlying ((hty T d hd).slice hk), goInt]), .p (.v _)⟩
        · exact ⟨_, len_ok ho hc ha hA (e0.trans e1) (by simp [Builtin.len_, run_underlying ((hty T d hd).slice hk), goInt]), .p (.v _)⟩
      split at hp
      · rename_i _ e s rows hl
        simp only [Option.some.injEq, Prod.mk.injEq] at hp
        obtain ⟨rfl, rfl⟩ := hp
        exact go hl rfl hob
      · rename_i _ e s rows hl
        simp only [Option.some.injEq, Prod.mk.injEq] at hp
        obtain ⟨rfl, rfl⟩ := hp
        exact go hl rfl hob
      · rename_i _ e s rows i0 row0 hl
        simp only [Option.some.injEq, Prod.mk.injEq] at hp
        obtain ⟨rfl, rfl⟩ := hp
        exact go hl rfl hob
      · cases hp
    · cases hp
  case h_5 => cases hp

theorem pr_sound (hty : ∀ T d, lk T tys = some d → TyOk P T d) (h : Sim N X0 M w0 st β a w) {o : Oper} {op : Op} (ho : o.op = op) {ob : Prop} {r : SV}
    (hp : st.pr tys op = some (ob, r)) (hob : ob) : Yl P (XX X0 β st.hp) β a w o r := by
  cases op with
  | move x =>
    simp only [St.pr, Option.some.injEq, Prod.mk.injEq] at hp
    obtain ⟨_, rfl⟩ := hp
    exact ⟨_, by simp [execOp, ho], St.ev_ok h x⟩
  | assign x =>
    simp only [St.pr, Option.some.injEq, Prod.mk.injEq] at hp
    obtain ⟨_, rfl⟩ := hp
    exact ⟨_, by simp [execOp, ho], St.ev_ok h x⟩
  | pick c x y => exact pr_pick h ho hp hob
  | binOp op T x y U => exact pr_binOp hty h ho hp hob
  | unOp op T x => exact pr_unOp h ho hp hob
  | nilCheck x => exact pr_nilCheck h ho hp hob
  | fieldAddr T x f => exact pr_fieldAddr hty h ho hp hob
  | indexAddr T x ix => exact pr_indexAddr hty h ho hp hob
  | load T x => exact pr_load hty h ho hp hob
  | index T x ix => exact pr_index hty h ho hp hob
  | extract x i => exact pr_extract h ho hp hob
  | makeFunc fn first caps => exact pr_makeFunc h ho hp hob
  | convert S T x => exact pr_convert hty h ho hp hob
  | slice T x lo hi mx => exact pr_slice hty h ho hp hob
  | call c =>
    simp only [St.pr] at hp
    split at hp
    case h_1 _ hc =>
      split at hp
      case h_1 _ _ x T ha hA => exact pr_len hty h ho hc ha hA hp hob
      case h_2 => cases hp
    case h_2 _ hc =>
      split at hp
      case h_1 _ x y ha => exact pr_min (mx := false) h ho hc ha hp hob
      case h_2 => cases hp
    case h_3 _ hc =>
      split at hp
      case h_1 _ x y ha => exact pr_min (mx := true) h ho hc ha hp hob
      case h_2 => cases hp
    case h_4 => cases hp
  | build T parts => exact pr_build hty h ho hp hob
  | _ => simp [St.pr] at hp
end
end Go.Vc
