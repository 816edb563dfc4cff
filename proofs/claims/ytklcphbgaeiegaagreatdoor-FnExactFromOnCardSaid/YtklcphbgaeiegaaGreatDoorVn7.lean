/-
  DERIVED. Several texts of ours in one: VtParseS, VcW, VtEnt, VcX, VcZ, VtEntS, VtStk2, VtEnO, VcFz.
-/
import Derived.Test.YtklcphbgaeiegaaGreatDoorVn0
import Derived.Test.YtklcphbgaeiegaaGreatDoorVn1
import Derived.Test.YtklcphbgaeiegaaGreatDoorVn2
import Derived.Test.YtklcphbgaeiegaaGreatDoorVn3
import Derived.Test.YtklcphbgaeiegaaGreatDoorVn4
import Derived.Test.YtklcphbgaeiegaaGreatDoorVn5
import Derived.Test.YtklcphbgaeiegaaGreatDoorVn6
import Derived.Orders
set_option linter.unusedSimpArgs false
set_option linter.unusedVariables false
/-
  DERIVED. ParseFrames of the reference.
-/
namespace Go.Proofs.YtklcphbgaeiegaaGreatDoor
open Go.Vc
set_option linter.unusedSimpArgs false
set_option linter.unusedVariables false
set_option maxHeartbeats 1000000
set_option maxRecDepth 10000
attribute [local go_sem] St.runR St.runW St.stepV offV St.step St.stepU St.stepG mkCond guardB St.prK St.pr St.prLen St.eff St.callE St.callD St.callF St.callL aI aB aS aR aC St.isM St.argL Ctr.pure Ctr.lend Ctr.move Ctr.isL Ctr.wri pur len lentBy St.lentV St.lent1 nthS argsR restOf obsR pairs swapL unObs backL St.resL erL SV.ren1 SV.up SV.up2 Ob.up St.fzL cellIds partIds St.intoRow SV.ownId St.fz SV.fz1 St.prep St.mvL St.mv SV.re1 rnOk St.prEq vals eqCells scEq Value.kd St.prStr St.prCut cutR St.bnd St.prMin St.bld isShift outL retL outJ oR oC St.ev St.get St.put St.new St.kill SV.kill SV.kill1 Ob.kill St.app St.wrt St.rowsOf St.res St.killL lk er argsL SV.strip SV.need SV.share SV.share1 SV.owns SV.owns1 SV.owns2 SV.good SV.good1 SV.rok SV.rok1 SV.rok2 SV.isV SV.isV2 nodupN SV.cells SV.one SV.pur Ob.pb partsIn rowsIn splice cellsAt dstOk scal2 scal1 thenK blockK retK outK outs okC okL okA okT nilC nilL nilA nilT keepC keepL keepA keepT St.runG St.dltK St.least St.clean St.final St.hide offK badS badO SV.refs SV.leaf SV.leaf2 Ob.refs dlOk fpAt Go.Vc.cover tups SV.ofAgg St.out outC subL St.has rng wr Value.oneCell' Option.isSome_some Option.isSome_none List.nil_append Bool.false_eq_true List.map_cons List.map_nil List.all_cons List.all_nil List.length_cons List.length_nil List.drop_zero List.drop_succ_cons List.take_succ_cons List.take_zero List.drop_nil List.take_nil List.getElem?_cons_zero List.getElem?_cons_succ List.getElem?_nil List.cons_append List.nil_append List.append_nil List.append_assoc List.flatMap_cons List.flatMap_nil List.contains_cons List.contains_nil List.set_cons_zero List.set_cons_succ List.getElem?_toArray Option.getD_some Option.getD_none Option.map_some Option.map_none Option.bind_some Option.some.injEq Prod.mk.injEq if_true if_false true_and and_true and_self and_false false_and Bool.and_false Bool.false_and Bool.or_true Bool.true_or Bool.or_false Bool.false_or ne_eq not_true_eq_false not_false_eq_true decide_true decide_false List.mem_cons List.not_mem_nil List.filter_cons List.filter_nil List.any_cons List.any_nil List.isEmpty_nil List.isEmpty_cons Option.getD_none or_false false_or true_or or_true forall_eq_or_imp forall_eq reduceCtorEq exists_eq exists_eq' exists_eq_left' exists_eq_left exists_eq_right exists_eq_right' imp_self implies_true Bool.and_true Bool.true_and Bool.and_self beq_self_eq_true List.replicate_succ List.replicate_zero forall_const false_implies pickB_or pickB_and beqT beqF Int.toNat_natCast List.length_map List.length_replicate ge_iff_le gt_iff_lt decide_eq_true_eq decide_eq_false_iff_not Bool.and_eq_true Bool.or_eq_true Bool.not_eq_true' Bool.not_eq_false' condG List.toList_toArray Bool.or_eq_false_iff Bool.and_eq_false_iff Int.not_lt Int.not_le beq_iff_eq beq_eq_false_iff_ne bne_iff_ne bne_eq_false_iff_eq ne_eq Bool.not_true Bool.not_false exists_and_left
attribute [local irreducible] Go.Vc.WP
attribute [local go_sem] cx0_t cx0_c
attribute [local go_sem] decNode_enc decFrame_enc oneFrame_enc stkA oneFrame_ab oneNode_abc decI_enc decS_enc aU
section
noncomputable def cxPaS : Cx := { P := Tryz.prog, tys := tys, C := [(95, kL22), (96, kParseU), (88, kFmtF)], hty := tysOk, hC := COk.cons cL22 (COk.cons cParseUS (COk.cons cFmtFS (COk.nil _))) }
theorem cxPaS_t : cxPaS.tys = tys := rfl
theorem cxPaS_c : cxPaS.C = [(95, kL22), (96, kParseU), (88, kFmtF)] := rfl
attribute [local go_sem] cxPaS_t cxPaS_c kL22 kParseU kFmtF
theorem partF_len {p : List UInt8} (h : ¬ ((cutL 58 p).length : Int) = 2) : partF p = none := by
  unfold partF
  split
  · rename_i n d hc; rw [hc] at h; simp at h
  · rfl
theorem partF_two {p : List UInt8} (h : ((cutL 58 p).length : Int) = 2) : ∃ n d, cutL 58 p = [n, d] := by
  match hc : cutL 58 p with
  | [n, d] => exact ⟨n, d, rfl⟩
  | [] => rw [hc] at h; simp at h
  | [_] => rw [hc] at h; simp at h
  | _ :: _ :: _ :: _ => rw [hc] at h; simp at h; omega
theorem cParseFS : Cn Tryz.prog 39 kParseF := by
  refine Cn.pur Tryz.func39 (by kernel_rfl) rfl fun d x hx => ?_
  rename ByteArray => s
  refine Holds.go (c := cxPaS) Tryz.func39 rfl Tryz.results39 Tryz.ntmps39 (by omega) (by simp) rfl ?_
  intro X0 w0
  have hpl := parts_len s
  have u59 : UInt8.ofNat 59 = 59 := rfl
  have u58 : UInt8.ofNat 58 = 58 := rfl
  have n59 : ((59 : UInt8).toNat : Int) = 59 := rfl
  have n58 : ((58 : UInt8).toNat : Int) = 58 := rfl
  have hps : cutL 59 s.data.toList = partsOf s := rfl
  (repeat' (first | refine WP.seq ?_ | refine WP.block ?_ | ((first | refine WP.region ?_ | refine WP.condW ?_ | refine WP.ret ?_ | refine WP.exit ?_ | refine WP.skip ?_); simp only [go_sem, u59, n59, hps, tyAll, Nat.reduceAdd, Nat.reduceLT, Nat.reduceLeDiff, Nat.reduceEqDiff, Nat.reduceMul, Nat.reduceSub, Nat.reduceGT, reduceIte, Int.reduceNeg, Int.reduceToNat]) |  refine And.intro ?_ ?_ | intro _))
  all_goals first | omega | exact ⟨_, _, _, rfl⟩ | skip
  refine WP.prep [12] [] rfl ?_
  refine WP.loop (fun q : Nat × List Frame => ⟨[(0, .v (.string s)), (4, .own 10), (5, .sl 1 (((partsOf s).map bts).map encS)), (6, .v (.int .i64 q.1))], [(10, .sl 46 2 (q.2.map encFrame))]⟩) (fun q => q.1 ≤ (partsOf s).length ∧ pInv s q.1 q.2) (fun q => (partsOf s).length - q.1) (0, []) ⟨by simp, pInv_zero s⟩ ?_ ?_
  · (simp only [go_sem, tyAll, Nat.reduceAdd, Nat.reduceLT, Nat.reduceLeDiff, Nat.reduceEqDiff, Nat.reduceMul, Nat.reduceSub, Nat.reduceGT, reduceIte, Int.reduceNeg, Int.reduceToNat] <;> (first | rfl | exact ⟨rfl, rfl⟩ | exact ⟨rfl, rfl, rfl⟩ | exact ⟨rfl, rfl, rfl, rfl⟩ | exact ⟨rfl, rfl, rfl, rfl, rfl⟩ | exact ⟨⟨rfl, rfl⟩, rfl⟩ | simp))
  rintro ⟨k, F⟩ ⟨hk, hI⟩
  simp only at hk hI ⊢
  have hFl := hI.2.1
  have hFn := hI.2.2
  by_cases hlt : k < (partsOf s).length
  · have hli : (k : Int) < (partsOf s).length := by omega
    have h1 := rowAt_map encS ((partsOf s).map bts) k (by simpa using hlt)
    rw [List.getElem_map] at h1
    have hsz := parts_size s hlt
    have hbd : (bts (partsOf s)[k]).data.toList = (partsOf s)[k] := by simp [bts]
    by_cases h2 : ((cutL 58 (partsOf s)[k]).length : Int) = 2
    · obtain ⟨n, d, hc⟩ := partF_two h2
      have hpc : partF (partsOf s)[k] = Option.map (fun (v : Nat) => (⟨bts n, (v : Int)⟩ : Frame)) (parseU (bts d)) := by unfold partF; rw [hc]
      have hdz : (bts d).size ≤ s.size := by
        rw [bts_size] at hsz ⊢
        have := cutL_mem 58 (l := (partsOf s)[k]) (x := d) (by rw [hc]; simp)
        omega
      have r0 : ∀ a b : List SV, Go.Vc.rowAt [a, b] 0 = a := fun _ _ => rfl
      have r1 : ∀ a b : List SV, Go.Vc.rowAt [a, b] 1 = b := fun _ _ => rfl
      have i1 : ((1 : Int)).toNat = 1 := rfl
      have i0 : ((0 : Int)).toNat = 0 := rfl
      cases hu : parseU (bts d) with
      | none =>
        rw [hu, Option.map_none] at hpc
        have hno := pInv_none hI hlt hpc
        (repeat' (first | refine WP.seq ?_ | refine WP.block ?_ | ((first | refine WP.region ?_ | refine WP.condW ?_ | refine WP.ret ?_ | refine WP.exit ?_ | refine WP.skip ?_); simp only [go_sem, hli, h1, encS, hbd, u58, n58, hc, r0, r1, i0, i1, hu, tyAll, Nat.reduceAdd, Nat.reduceLT, Nat.reduceLeDiff, Nat.reduceEqDiff, Nat.reduceMul, Nat.reduceSub, Nat.reduceGT, reduceIte, Int.reduceNeg, Int.reduceToNat]) |  refine And.intro ?_ ?_ | intro _))
        all_goals first | omega | exact ⟨_, _, _, rfl⟩ | simp only [hno, Option.getD_none, Option.isSome_none, List.map_nil] | skip
      | some v =>
        rw [hu, Option.map_some] at hpc
        have hyes := pInv_some hI hlt hpc
        have had := addF F ⟨bts n, (v : Int)⟩
        (repeat' (first | refine WP.seq ?_ | refine WP.block ?_ | ((first | refine WP.region ?_ | refine WP.condW ?_ | refine WP.ret ?_ | refine WP.exit ?_ | refine WP.skip ?_); simp only [go_sem, hli, h1, encS, hbd, u58, n58, hc, r0, r1, i0, i1, hu, had, tyAll, Nat.reduceAdd, Nat.reduceLT, Nat.reduceLeDiff, Nat.reduceEqDiff, Nat.reduceMul, Nat.reduceSub, Nat.reduceGT, reduceIte, Int.reduceNeg, Int.reduceToNat]) |  refine And.intro ?_ ?_ | intro _))
        all_goals first | omega | exact ⟨_, _, _, rfl⟩ | skip
        exact ⟨(k + 1, F ++ [⟨bts n, (v : Int)⟩]), ⟨by simp only; omega, hyes⟩, by simp only; omega, by (first | rfl | exact ⟨rfl, rfl⟩ | exact ⟨rfl, rfl, rfl⟩ | exact ⟨rfl, rfl, rfl, rfl⟩ | exact ⟨rfl, rfl, rfl, rfl, rfl⟩ | exact ⟨⟨rfl, rfl⟩, rfl⟩ | simp)⟩
    · have hno := pInv_none hI hlt (partF_len h2)
      (repeat' (first | refine WP.seq ?_ | refine WP.block ?_ | ((first | refine WP.region ?_ | refine WP.condW ?_ | refine WP.ret ?_ | refine WP.exit ?_ | refine WP.skip ?_); simp only [go_sem, hli, h1, encS, hbd, u58, n58, h2, tyAll, Nat.reduceAdd, Nat.reduceLT, Nat.reduceLeDiff, Nat.reduceEqDiff, Nat.reduceMul, Nat.reduceSub, Nat.reduceGT, reduceIte, Int.reduceNeg, Int.reduceToNat]) |  refine And.intro ?_ ?_ | intro _))
      all_goals first | omega | exact ⟨_, _, _, rfl⟩ | simp only [hno, Option.getD_none, Option.isSome_none, List.map_nil] | skip
  · have hbF : ∀ f ∈ F, f.name.size ≤ 1099511627776 := fun f hf => by have := hFn f hf; omega
    clear n58 n59 u58 u59
    have hge : ¬ (k : Int) < (partsOf s).length := by omega
    (repeat' (first | refine WP.seq ?_ | refine WP.block ?_ | ((first | refine WP.region ?_ | refine WP.condW ?_ | refine WP.ret ?_ | refine WP.exit ?_ | refine WP.skip ?_); simp only [go_sem, hge, tyAll, Nat.reduceAdd, Nat.reduceLT, Nat.reduceLeDiff, Nat.reduceEqDiff, Nat.reduceMul, Nat.reduceSub, Nat.reduceGT, reduceIte, Int.reduceNeg, Int.reduceToNat]) |  refine And.intro ?_ ?_ | intro _))
    all_goals first | omega | exact hbF _ ‹_› | exact absurd ‹s = ⟨#[]⟩› ‹¬ s = ⟨#[]⟩› | skip
    · rename_i hc; rw [pEnd_no hI (by omega) hc]; rfl
    · rename_i hc; rw [pEnd_no hI (by omega) hc]; rfl
    · rename_i hc; rw [pEnd_yes hI (by omega) hc]; rfl
    · rename_i hc; rw [pEnd_yes hI (by omega) hc]; rfl
end
end Go.Proofs.YtklcphbgaeiegaaGreatDoor

/-
  DERIVED. A nil slice in a slot or in a variable's cell as a list of one's own that holds nothing.
-/
namespace Go.Vc
set_option linter.unusedVariables false

/-- object t is turned into what stands for the same cells -/
def rp (t : Nat) (ob : Ob) : List (Nat × Ob) → List (Nat × Ob)
  | [] => []
  | (u, o) :: l => (if u = t then (u, ob) else (u, o)) :: rp t ob l
theorem lk_rp {t : Nat} {ob : Ob} {j : Nat} : ∀ {l : List (Nat × Ob)} {o : Ob}, lk j (rp t ob l) = some o → ∃ o0, lk j l = some o0 ∧ (j = t → o = ob) ∧ (j ≠ t → o = o0)
  | (u, o1) :: l, o, h => by
    simp only [rp] at h
    by_cases hu : u = t
    · rw [if_pos hu] at h
      simp only [lk] at h ⊢
      by_cases hj : j = u
      · rw [if_pos hj] at h ⊢; cases h
        exact ⟨o1, rfl, fun _ => rfl, fun hn => absurd (hj.trans hu) hn⟩
      · rw [if_neg hj] at h ⊢; exact lk_rp h
    · rw [if_neg hu] at h
      simp only [lk] at h ⊢
      by_cases hj : j = u
      · rw [if_pos hj] at h ⊢; cases h
        exact ⟨_, rfl, fun e => absurd (hj.symm.trans e) hu, fun _ => rfl⟩
      · rw [if_neg hj] at h ⊢; exact lk_rp h
def isNil : SV → Bool
  | .v (.slice none 0 0) => true
  | _ => false
/-- cell k of variable t, a nil slice, is list id from here on (elements of type e, of s cells) -/
def St.adoptB (st : St) (t k id e s : Nat) : St :=
  match lk t (st.kill id).hp with
  | some (.box e' cs) => match cs[k]? with
    | some c => if isNil c = true ∧ id < 1000000 ∧ t ≠ id then { fr := (st.kill id).fr, hp := rp t (.box e' (cs.set k (.own id))) ((id, .sl e s []) :: (st.kill id).hp) } else st
    | none => st
  | _ => st
/-- .. what slot t holds -/
def St.adoptS (st : St) (t id e s : Nat) : St :=
  match lk t (st.kill id).fr with
  | some c => if isNil c = true ∧ id < 1000000 then { fr := (t, .own id) :: er t (st.kill id).fr, hp := (id, .sl e s []) :: (st.kill id).hp } else st
  | none => st
section
variable {c : Cx} {P : Program} {N : Nat} {X0 : Nat → Prop} {M : Nat → Value → Prop} {w0 : World} {st : St} {K : Exit → St → Prop}
theorem isNil_eq {x : SV} (h : isNil x = true) : x = .v (.slice none 0 0) := by
  unfold isNil at h
  split at h
  · rfl
  · cases h
theorem Sim.nilObj {β : Nat → Value} {a : Act} {w : World} (h : Sim N X0 M w0 st β a w) {id e s : Nat} (hid : id < 1000000) :
    ∃ β', β' id = .slice none 0 0 ∧ Sim N X0 M w0 { fr := (st.kill id).fr, hp := (id, .sl e s []) :: (st.kill id).hp } β' a w := by
  let β' : Nat → Value := fun i => if i = id then .slice none 0 0 else β i
  have hβ : ∀ i, i ≠ id → β' i = β i := fun i hi => by show (if i = id then _ else β i) = _; rw [if_neg hi]
  have hβd : β' id = .slice none 0 0 := by show (if id = id then _ else β id) = _; rw [if_pos rfl]
  have h1 := h.kill id hid hβ (by rw [hβd]; rfl) (w' := w) rfl rfl rfl (Nat.le_refl _) (fun _ _ _ => rfl) (X1 := X0) (fun b _ hb => .inl hb) h.x0
  refine ⟨β', hβd, ?_⟩
  exact h1.add (j := id) (lk_kill st id) (ob := .sl e s []) (.nil e s hβd) (fun b hb => by rw [hβd] at hb; cases hb) (fun b hb => by rw [hβd] at hb; cases hb) (fun b i o hb => by rw [hβd] at hb; cases hb)
theorem Sim.rp {β : Nat → Value} {a : Act} {w : World} (h : Sim N X0 M w0 st β a w) {t e' : Nat} {cs ds : List SV} (ht : lk t st.hp = some (.box e' cs)) (hl : ds.length = cs.length)
    (hd : ∀ (k : Nat) (d : SV), ds[k]? = some d → ∃ c, cs[k]? = some c ∧ ∀ u, R w (XX X0 β st.hp) β c u → R w (XX X0 β st.hp) β d u) : Sim N X0 M w0 { fr := st.fr, hp := Go.Vc.rp t (.box e' ds) st.hp } β a w := by
  have hX : ∀ b, XX X0 β (Go.Vc.rp t (.box e' ds) st.hp) b → XX X0 β st.hp b := fun b hb => by
    rcases hb with hb | ⟨j, o, hj, hb⟩
    · exact .inl hb
    · obtain ⟨o0, h1, _⟩ := lk_rp hj; exact .inr ⟨j, o0, h1, hb⟩
  have hS : Same (XX X0 β st.hp) w w := ⟨Nat.le_refl _, fun _ _ _ => rfl⟩
  exact { h with
    slots := fun u x hx => (h.slots u x hx).mono hS fun b _ => hX b
    objs := fun j o hj => by
      obtain ⟨o0, h1, h2, h3⟩ := lk_rp hj
      by_cases hjt : j = t
      · rw [h2 hjt]
        subst hjt
        have hO := h.objs j _ ht
        cases hO with
        | box b cur hv hh hlen hc =>
          refine .box b cur hv hh (by rw [hl]; exact hlen) fun k d u hk hu => ?_
          obtain ⟨c0, hc0, hR⟩ := hd k d hk
          obtain ⟨g1, g2⟩ := hc k c0 u hc0 hu
          exact ⟨g1, (hR u g2).mono hS fun b _ => hX b⟩
      · rw [h3 hjt]
        exact (h.objs j o0 h1).mono hS (fun b _ hb => hX b hb) (fun _ _ => rfl)
    inj := fun p q op oq b hp hq hbp hbq => by
      obtain ⟨o1, e1, _⟩ := lk_rp hp
      obtain ⟨o2, e2, _⟩ := lk_rp hq
      exact h.inj p q o1 o2 b e1 e2 hbp hbq
    mine := fun j o b hj hb => by
      obtain ⟨o1, e1, _⟩ := lk_rp hj
      exact h.mine j o1 b e1 hb }
theorem Sim.adoptB {β : Nat → Value} {a : Act} {w : World} (h : Sim N X0 M w0 st β a w) (t k id e s : Nat) : ∃ β', Sim N X0 M w0 (st.adoptB t k id e s) β' a w := by
  unfold St.adoptB
  split
  case h_2 => exact ⟨β, h⟩
  case h_1 _ e' cs hl =>
  split
  case h_2 => exact ⟨β, h⟩
  case h_1 _ c0 hc =>
  split
  case isFalse => exact ⟨β, h⟩
  case isTrue hh =>
  obtain ⟨hn, hid, hne⟩ := hh
  have hc0 := isNil_eq hn
  subst hc0
  obtain ⟨β', hb, h1⟩ := h.nilObj (e := e) (s := s) hid
  refine ⟨β', ?_⟩
  have hlt : k < cs.length := (List.getElem?_eq_some_iff.1 hc).1
  refine h1.rp (t := t) (e' := e') (cs := cs) (ds := cs.set k (.own id)) ?_ (by simp) fun i d hd => ?_
  · simp only [lk, if_neg hne]; exact hl
  · rw [List.getElem?_set] at hd
    split at hd
    · rename_i hik
      subst hik
      try rw [if_pos hlt] at hd
      cases hd
      exact ⟨_, hc, fun u hu => by have := hu.v_inv; subst this; rw [← hb]; exact .own id⟩
    · exact ⟨d, hd, fun u hu => hu⟩
theorem Sim.adoptS {β : Nat → Value} {a : Act} {w : World} (h : Sim N X0 M w0 st β a w) (t id e s : Nat) : ∃ β', Sim N X0 M w0 (st.adoptS t id e s) β' a w := by
  unfold St.adoptS
  split
  case h_2 => exact ⟨β, h⟩
  case h_1 _ c0 hc =>
  split
  case isFalse => exact ⟨β, h⟩
  case isTrue hh =>
  obtain ⟨hn, hid⟩ := hh
  have hc0 := isNil_eq hn
  subst hc0
  obtain ⟨β', hb, h1⟩ := h.nilObj (e := e) (s := s) hid
  refine ⟨β', ?_⟩
  have hv := (h1.slots t _ hc).v_inv
  exact { h1 with
    slots := fun u x hx => by
      simp only [lk] at hx
      split at hx
      · rename_i hut
        cases hx
        rw [hut, hv, ← hb]; exact .own id
      · rename_i hut
        rw [lk_er_ne hut] at hx
        exact h1.slots u x hx }
/-- a list of such changes -/
inductive Ado where
  | b (t k id e s : Nat)
  | s (t id e s : Nat)
def St.ado (st : St) : List Ado → St
  | [] => st
  | .b t k id e s :: l => (st.adoptB t k id e s).ado l
  | .s t id e s :: l => (st.adoptS t id e s).ado l
theorem Sim.ado {a : Act} {w : World} : ∀ (l : List Ado) {st : St} {β : Nat → Value}, Sim N X0 M w0 st β a w → ∃ β', Sim N X0 M w0 (st.ado l) β' a w
  | [], st, β, h => ⟨β, h⟩
  | .b t k id e s :: l, st, β, h => by obtain ⟨β', h'⟩ := h.adoptB t k id e s; exact Sim.ado l h'
  | .s t id e s :: l, st, β, h => by obtain ⟨β', h'⟩ := h.adoptS t id e s; exact Sim.ado l h'
theorem WP.ado (l : List Ado) {code : Code} (h : WP c N X0 M w0 code (st.ado l) K) : WP c N X0 M w0 code st K := fun hA β a w hs => by
  obtain ⟨β', h'⟩ := hs.ado l
  exact h hA β' a w h'
end
end Go.Vc

/-
  DERIVED. ProfileOf, of the reference and of the program.
-/
namespace Go.Proofs.YtklcphbgaeiegaaGreatDoor
open Go.Vc
set_option linter.unusedSimpArgs false
set_option linter.unusedVariables false
set_option maxHeartbeats 1000000
set_option maxRecDepth 10000
attribute [local go_sem] St.runR St.runW St.stepV offV St.step St.stepU St.stepG mkCond guardB St.prK St.pr St.prLen St.eff St.callE St.callD St.callF St.callL aI aB aS aR aC St.isM St.argL Ctr.pure Ctr.lend Ctr.move Ctr.isL Ctr.wri pur len lentBy St.lentV St.lent1 nthS argsR restOf obsR pairs swapL unObs backL St.resL erL SV.ren1 SV.up SV.up2 Ob.up St.fzL cellIds partIds St.intoRow SV.ownId St.fz SV.fz1 St.prep St.mvL St.mv SV.re1 rnOk St.prEq vals eqCells scEq Value.kd St.prStr St.prCut cutR St.bnd St.prMin St.bld isShift outL retL outJ oR oC St.ev St.get St.put St.new St.kill SV.kill SV.kill1 Ob.kill St.app St.wrt St.rowsOf St.res St.killL lk er argsL SV.strip SV.need SV.share SV.share1 SV.owns SV.owns1 SV.owns2 SV.good SV.good1 SV.rok SV.rok1 SV.rok2 SV.isV SV.isV2 nodupN SV.cells SV.one SV.pur Ob.pb partsIn rowsIn splice cellsAt dstOk scal2 scal1 thenK blockK retK outK outs okC okL okA okT nilC nilL nilA nilT keepC keepL keepA keepT St.runG St.dltK St.least St.clean St.final St.hide offK badS badO SV.refs SV.leaf SV.leaf2 Ob.refs dlOk fpAt Go.Vc.cover tups SV.ofAgg St.out outC subL St.has rng wr Value.oneCell' Option.isSome_some Option.isSome_none List.nil_append Bool.false_eq_true List.map_cons List.map_nil List.all_cons List.all_nil List.length_cons List.length_nil List.drop_zero List.drop_succ_cons List.take_succ_cons List.take_zero List.drop_nil List.take_nil List.getElem?_cons_zero List.getElem?_cons_succ List.getElem?_nil List.cons_append List.nil_append List.append_nil List.append_assoc List.flatMap_cons List.flatMap_nil List.contains_cons List.contains_nil List.set_cons_zero List.set_cons_succ List.getElem?_toArray Option.getD_some Option.getD_none Option.map_some Option.map_none Option.bind_some Option.some.injEq Prod.mk.injEq if_true if_false true_and and_true and_self and_false false_and Bool.and_false Bool.false_and Bool.or_true Bool.true_or Bool.or_false Bool.false_or ne_eq not_true_eq_false not_false_eq_true decide_true decide_false List.mem_cons List.not_mem_nil List.filter_cons List.filter_nil List.any_cons List.any_nil List.isEmpty_nil List.isEmpty_cons Option.getD_none or_false false_or true_or or_true forall_eq_or_imp forall_eq reduceCtorEq exists_eq exists_eq' exists_eq_left' exists_eq_left exists_eq_right exists_eq_right' imp_self implies_true Bool.and_true Bool.true_and Bool.and_self beq_self_eq_true List.replicate_succ List.replicate_zero forall_const false_implies pickB_or pickB_and beqT beqF Int.toNat_natCast List.length_map List.length_replicate ge_iff_le gt_iff_lt decide_eq_true_eq decide_eq_false_iff_not Bool.and_eq_true Bool.or_eq_true Bool.not_eq_true' Bool.not_eq_false' condG List.toList_toArray Bool.or_eq_false_iff Bool.and_eq_false_iff Int.not_lt Int.not_le beq_iff_eq beq_eq_false_iff_ne bne_iff_ne bne_eq_false_iff_eq ne_eq Bool.not_true Bool.not_false exists_and_left
attribute [local irreducible] Go.Vc.WP
attribute [local go_sem] cx0_t cx0_c
attribute [local go_sem] isV_Node isV_It isV_Entry decNode_enc decFrame_enc oneFrame_enc stkA oneFrame_ab oneNode_abc decI_enc decS_enc aU prA decEntry_enc St.ado St.adoptB St.adoptS rp isNil
/-- entries that can be read without growing past all bounds -/
def wfE (L : List Entry) : Prop := L.length ≤ 1048576 ∧ ∀ e ∈ L, e.stack.size ≤ 12582912
theorem parseF_small {s : ByteArray} {F : List Frame} (h : parseF s = some F) : 4 * F.length ≤ s.size + 1 ∧ ∀ f ∈ F, f.name.size ≤ 8 := by
  obtain ⟨h1, h2, h3⟩ := parseF_some h
  constructor
  · have h4 : ∀ (L : List Frame), L.all frOk = true → L ≠ [] → 4 * L.length ≤ (joinL 59 (L.map frTxt)).length + 1 := by
      intro L
      induction L with
      | nil => intro _ h; exact absurd rfl h
      | cons f L ih =>
        intro ha _
        simp only [List.all_cons, Bool.and_eq_true] at ha
        have hf := (frTxt_len ha.1).1
        match L, ih, ha with
        | [], _, _ => simp only [List.map_cons, List.map_nil, joinL, List.length_cons, List.length_nil]; omega
        | g :: L, ih, ha =>
          have := ih ha.2 (by simp)
          simp only [List.map_cons, joinL, List.length_append, List.length_cons] at this ⊢
          omega
    have h5 := h4 F h3 h2
    have h6 : (fmtF F).size = (joinL 59 (F.map frTxt)).length := by unfold fmtF; rw [if_pos h3, bts_size]
    rw [h1] at h6
    omega
  · intro f hf
    have := (frOk_iff.1 (List.all_eq_true.1 h3 f hf)).1
    exact (nameOk_letters this).2.2
def kProfOf : Ctr := pur (fun args => decEntry (aR args 0)) (fun L => [.sl 2 (L.map encEntry)]) wfE
  (fun d L => .tup [.agg [.own d, .own (d + 1000)], .v (.bool (profileOf L).isSome)]) (fun d L => [(d, .sl 157 3 (((profileOf L).getD ([], [])).1.map encNode)), (d + 1000, .sl 3 1 (((profileOf L).getD ([], [])).2.map encI))])
/-- what the profile is like when k entries are in it -/
def eInv (L : List Entry) (k : Nat) (s : List Node × List Int) : Prop := profileOf L = profGo (L.drop k) s ∧ s.1.length ≤ 3145729 * k ∧ s.2.length ≤ 3145729 * k ∧ ∀ x ∈ s.1, x.name.size ≤ 8
theorem eInv_zero (L : List Entry) : eInv L 0 ([], []) := ⟨rfl, by simp, by simp, by simp⟩
theorem eInv_none {L : List Entry} {k : Nat} {s : List Node × List Int} (h : eInv L k s) (hk : k < L.length) (hp : parseF L[k].stack = none) : profileOf L = none := by
  rw [h.1, List.drop_eq_getElem_cons hk, profGo_no hp]
theorem eInv_bad {L : List Entry} {k : Nat} {s : List Node × List Int} {f : List Frame} (h : eInv L k s) (hk : k < L.length) (hp : parseF L[k].stack = some f) (hb : (addStack s.1 s.2 f L[k].count).2 = false) : profileOf L = none := by
  rw [h.1, List.drop_eq_getElem_cons hk, profGo_bad hp hb]
theorem eInv_ok {L : List Entry} {k : Nat} {s : List Node × List Int} {f : List Frame} (hL : wfE L) (h : eInv L k s) (hk : k < L.length) (hp : parseF L[k].stack = some f) (hb : (addStack s.1 s.2 f L[k].count).2 = true) : eInv L (k + 1) (addStack s.1 s.2 f L[k].count).1 := by
  obtain ⟨h1, h2, h3, h4⟩ := h
  obtain ⟨h5, h6⟩ := parseF_small hp
  have h7 := hL.2 _ (List.getElem_mem hk)
  have h8 := addStack_len s.1 s.2 f L[k].count
  refine ⟨?_, by omega, by omega, addStack_names h4 h6⟩
  rw [h1, List.drop_eq_getElem_cons hk, profGo_ok hp hb]
theorem eInv_end {L : List Entry} {k : Nat} {s : List Node × List Int} (h : eInv L k s) (hk : L.length ≤ k) : profileOf L = some s := by
  rw [h.1, List.drop_of_length_le hk, profGo]
theorem addStack_nil (N : List Node) (C : List Int) (n : Int) : addStack N C [] n = ((N, C), false) := by
  unfold addStack
  rw [if_neg]
  rintro ⟨_, _, _, h, _⟩
  unfold intern at h
  rw [if_neg (by simp)] at h
  simp at h
section
noncomputable def cxPfI : Cx := { P := Tryz.prog, tys := tys, C := [(73, kParseF), (71, kAddStack)], hty := tysOk, hC := COk.cons cParseFI (COk.cons cAddStackI (COk.nil _)) }
theorem cxPfI_t : cxPfI.tys = tys := rfl
theorem cxPfI_c : cxPfI.C = [(73, kParseF), (71, kAddStack)] := rfl
attribute [local go_sem] cxPfI_t cxPfI_c kParseF kAddStack
theorem cProfOfI : Cn Tryz.prog 77 kProfOf := by
  refine Cn.pur Tryz.func77 (by kernel_rfl) rfl fun d x hx => ?_
  rename List Entry => L
  have hL := hx.1
  refine Holds.go (c := cxPfI) Tryz.func77 rfl Tryz.results77 Tryz.ntmps77 (by omega) (by simp) rfl ?_
  intro X0 w0
  (repeat' (first | refine WP.seq ?_ | refine WP.block ?_ | ((first | refine WP.region ?_ | refine WP.condW ?_ | refine WP.ret ?_ | refine WP.exit ?_ | refine WP.skip ?_); simp only [go_sem, tyAll, Nat.reduceAdd, Nat.reduceLT, Nat.reduceLeDiff, Nat.reduceEqDiff, Nat.reduceMul, Nat.reduceSub, Nat.reduceGT, reduceIte, Int.reduceNeg, Int.reduceToNat]) |  refine And.intro ?_ ?_ | intro _))
  all_goals first | omega | skip
  refine WP.ado [.b 4 0 32 157 3, .b 4 1 1032 3 1] ?_
  refine WP.loop (fun q : Nat × List Node × List Int => ⟨[(2, .ptr 2 0 0 0), (4, .ptr 4 0 0 0), (12, .sl 2 (L.map encEntry)), (13, .v (.int .i64 L.length)), (14, .v (.int .i64 q.1))],
    [(2, .box 29 [.v (.slice none 0 0), .v (.slice none 0 0)]), (4, .box 29 [.own 32, .own 1032]), (32, .sl 157 3 (q.2.1.map encNode)), (1032, .sl 3 1 (q.2.2.map encI))]⟩)
    (fun q => q.1 ≤ L.length ∧ eInv L q.1 q.2) (fun q => L.length - q.1) (0, [], []) ⟨by simp, eInv_zero L⟩ ?_ ?_
  · (simp only [go_sem, tyAll, Nat.reduceAdd, Nat.reduceLT, Nat.reduceLeDiff, Nat.reduceEqDiff, Nat.reduceMul, Nat.reduceSub, Nat.reduceGT, reduceIte, Int.reduceNeg, Int.reduceToNat] <;> (first | rfl | exact ⟨rfl, rfl⟩ | exact ⟨rfl, rfl, rfl⟩ | exact ⟨rfl, rfl, rfl, rfl⟩ | exact ⟨rfl, rfl, rfl, rfl, rfl⟩ | exact ⟨⟨rfl, rfl⟩, rfl⟩ | simp))
  rintro ⟨k, N, C⟩ ⟨hk, hI⟩
  simp only at hk hI ⊢
  have h2 := hI.2.1
  have h3 := hI.2.2.1
  have h4 := hI.2.2.2
  simp only at h2 h3 h4
  have hnb : ∀ x ∈ N, x.name.size ≤ 1099511627776 := fun x hx => by have := h4 x hx; omega
  by_cases hlt : k < L.length
  · have hli : (k : Int) < L.length := by omega
    have h1 := rowAt_map encEntry L k hlt
    have hsz := hx.2 _ (List.getElem_mem hlt)
    cases hp : parseF L[k].stack with
    | none =>
      have hno := eInv_none hI hlt hp
      (repeat' (first | refine WP.seq ?_ | refine WP.block ?_ | ((first | refine WP.region ?_ | refine WP.condW ?_ | refine WP.ret ?_ | refine WP.exit ?_ | refine WP.skip ?_); simp only [go_sem, hli, h1, encEntry, hp, tyAll, Nat.reduceAdd, Nat.reduceLT, Nat.reduceLeDiff, Nat.reduceEqDiff, Nat.reduceMul, Nat.reduceSub, Nat.reduceGT, reduceIte, Int.reduceNeg, Int.reduceToNat]) |  refine And.intro ?_ ?_ | intro _))
      all_goals first | omega | exact ⟨_, _, _, rfl⟩ | exact ⟨_, _, rfl, _, _, rfl, rfl⟩ | (rw [hno]; first | rfl | exact ⟨_, _, rfl⟩ | exact ⟨_, _, if_neg (by omega)⟩ | exact if_neg (by omega)) | skip
    | some f =>
      obtain ⟨h5, h6⟩ := parseF_small hp
      have hfb : ∀ g ∈ f, g.name.size ≤ 1099511627776 := fun g hg => by have := h6 g hg; omega
      cases hb : (addStack N C f L[k].count).2 with
      | false =>
        have hno := eInv_bad hI hlt hp hb
        (repeat' (first | refine WP.seq ?_ | refine WP.block ?_ | ((first | refine WP.region ?_ | refine WP.condW ?_ | refine WP.ret ?_ | refine WP.exit ?_ | refine WP.skip ?_); simp only [go_sem, hli, h1, encEntry, hp, hb, tyAll, Nat.reduceAdd, Nat.reduceLT, Nat.reduceLeDiff, Nat.reduceEqDiff, Nat.reduceMul, Nat.reduceSub, Nat.reduceGT, reduceIte, Int.reduceNeg, Int.reduceToNat]) |  refine And.intro ?_ ?_ | intro _))
        all_goals first | omega | (simp only; omega) | exact hnb _ ‹_› | exact hfb _ ‹_› | exact ⟨_, _, _, rfl⟩ | exact ⟨_, _, rfl, _, _, rfl, rfl⟩ | (rw [hno]; first | rfl | exact ⟨_, _, rfl⟩ | exact ⟨_, _, if_neg (by omega)⟩ | exact if_neg (by omega)) | skip
      | true =>
        have hyes := eInv_ok hx hI hlt hp hb
        (repeat' (first | refine WP.seq ?_ | refine WP.block ?_ | ((first | refine WP.region ?_ | refine WP.condW ?_ | refine WP.ret ?_ | refine WP.exit ?_ | refine WP.skip ?_); simp only [go_sem, hli, h1, encEntry, hp, hb, tyAll, Nat.reduceAdd, Nat.reduceLT, Nat.reduceLeDiff, Nat.reduceEqDiff, Nat.reduceMul, Nat.reduceSub, Nat.reduceGT, reduceIte, Int.reduceNeg, Int.reduceToNat]) |  refine And.intro ?_ ?_ | intro _))
        all_goals first | omega | (simp only; omega) | exact hnb _ ‹_› | exact hfb _ ‹_› | exact ⟨_, _, _, rfl⟩ | exact ⟨_, _, rfl, _, _, rfl, rfl⟩ | skip
        exact ⟨(k + 1, (addStack N C f L[k].count).1), ⟨by simp only; omega, hyes⟩, by simp only; omega, rfl, rfl, rfl⟩
  · have hge : ¬ (k : Int) < L.length := by omega
    have he := eInv_end hI (by omega)
    (repeat' (first | refine WP.seq ?_ | refine WP.block ?_ | ((first | refine WP.region ?_ | refine WP.condW ?_ | refine WP.ret ?_ | refine WP.exit ?_ | refine WP.skip ?_); simp only [go_sem, hge, tyAll, Nat.reduceAdd, Nat.reduceLT, Nat.reduceLeDiff, Nat.reduceEqDiff, Nat.reduceMul, Nat.reduceSub, Nat.reduceGT, reduceIte, Int.reduceNeg, Int.reduceToNat]) |  refine And.intro ?_ ?_ | intro _))
    all_goals first | omega | exact ⟨_, _, rfl, _, _, rfl, rfl⟩ | (rw [he]; first | rfl | exact if_neg (by omega)) | skip
end
end Go.Proofs.YtklcphbgaeiegaaGreatDoor

/-
  DERIVED. As WP.flowW, the lists that are sliced there first given up as lists of one's own.
-/
namespace Go.Vc
def St.fzS : St → List Nat → St
  | st, [] => st
  | st, s :: l => ((st.fzL (st.ev (.tmp s)).strip.ownId)).fzS l
theorem Sim.fzS {P : Program} {X0 : Nat → Prop} {M : Nat → Value → Prop} {w0 : World} {N : Nat} {β : Nat → Value} {a : Act} {w : World} (hA : Ap P X0 M w0) : ∀ (l : List Nat) {st : St}, Sim N X0 M w0 st β a w → Sim N X0 M w0 (st.fzS l) β a w
  | [], _, h => h
  | _ :: l, _, h => Sim.fzS hA l (h.fzL hA _)
theorem WP.flowZ {c : Cx} {N : Nat} {X0 : Nat → Prop} {M : Nat → Value → Prop} {w0 : World} {K : Exit → St → Prop} {id : Nat} {l : List Oper} {st : St} (zs : List Nat) (m : Nat) (fl : List Fp) (ds mks gs : List Nat) (hB : flowB l.toArray m fl = true)
    (hD : ((List.range m).all fun k => match dstAt l.toArray k with | some d => ds.contains d | none => false) = true)
    (hM : ((List.range m).all fun k => ((fpAt fl k).mks.all fun d => mks.contains d) && ((fpAt fl k).gn.all fun d => gs.contains d)) = true) (hm : c.P.follows .mixedOrders = true)
    (h : St.runG c.tys c.C N l.toArray fl ((st.fzS zs).clean ds mks) (l.take m) 0 [] fun acc => St.runR c.tys c.C N l.toArray (l.drop m) (((st.fzS zs).clean ds mks).final acc gs) (K .normal)) : WP c N X0 M w0 (.region id l.toArray true) st K := by
  intro hA β a w hs
  exact WP.flowW m fl ds mks gs hB hD hM hm h hA β a w (hs.fzS hA zs)
end Go.Vc

/-
  DERIVED. A region whose order is open: one of its value operations may be taken as soon as it can be.
-/
namespace Go.Vc
set_option linter.unusedVariables false
section
variable {P : Program} {Q : Exit → Act → World → Prop} {s q : Nat} {ops : Array Oper}
def behind (o : Oper) (q : Nat) : Oper := { o with after := o.after.push ⟨q, .data⟩ }
def addE (s q : Nat) (ops : Array Oper) : Array Oper := ops.modify s fun o => behind o q
theorem addE_get (i : Nat) : (addE s q ops)[i]? = (ops[i]?).map fun o => if i = s then behind o q else o := by
  unfold addE
  rw [Array.getElem?_modify]
  by_cases h : s = i
  · rw [if_pos h]; subst h; simp
  · rw [if_neg h]
    have : ¬ i = s := fun e => h e.symm
    simp [this]
theorem yielded_addE (tmps : Array Value) : yielded (addE s q ops) tmps = yielded ops tmps := by
  funext j
  unfold yielded
  rw [addE_get]
  cases ops[j]? with
  | none => rfl
  | some o =>
    simp only [Option.map_some, Option.bind_some]
    by_cases hj : j = s
    · rw [if_pos hj]; rfl
    · rw [if_neg hj]
theorem wpOp_addE {i : Nat} {K : Act → World → Prop} {a : Act} {w : World} (h : wpOp P (addE s q ops) Q i K a w) : wpOp P ops Q i K a w := by
  unfold wpOp at h ⊢
  rw [addE_get, yielded_addE] at h
  cases ho : ops[i]? with
  | none => rw [ho] at h; exact h
  | some o =>
    rw [ho] at h
    simp only [Option.map_some] at h ⊢
    by_cases hi : i = s
    · rw [if_pos hi] at h; exact h
    · rw [if_neg hi] at h; exact h
theorem ready_addE {i : Nat} {listed : Array Bool} : i ∈ Region.ready .any (addE s q ops) listed ↔ i ∈ Region.ready .any ops listed ∧ (i = s → listed.getD q false = true) := by
  rw [mem_ready', mem_ready', addE_get, show (addE s q ops).size = ops.size by unfold addE; rw [Array.size_modify]]
  constructor
  · rintro ⟨h1, h2, o', ho', h3⟩
    cases ho : ops[i]? with
    | none => rw [ho] at ho'; cases ho'
    | some o =>
      rw [ho] at ho'
      simp only [Option.map_some, Option.some.injEq] at ho'
      by_cases hi : i = s
      · rw [if_pos hi] at ho'
        subst ho'
        refine ⟨⟨h1, h2, o, rfl, fun e he hb => h3 e (by unfold behind; simp [he]) hb⟩, fun _ => h3 ⟨q, .data⟩ (by unfold behind; simp) rfl⟩
      · rw [if_neg hi] at ho'
        subst ho'
        exact ⟨⟨h1, h2, o, rfl, h3⟩, fun e => absurd e hi⟩
  · rintro ⟨⟨h1, h2, o, ho, h3⟩, h4⟩
    rw [ho]
    simp only [Option.map_some, Option.some.injEq]
    refine ⟨h1, h2, _, rfl, fun e he hb => ?_⟩
    by_cases hi : i = s
    · rw [if_pos hi] at he
      unfold behind at he
      simp only [Array.mem_push] at he
      rcases he with he | rfl
      · exact h3 e he hb
      · exact h4 hi
    · rw [if_neg hi] at he
      exact h3 e he hb

/-- what the place of q asks: s waits for all that q waits for, every other operation waits for q or is apart from it -/
structure EdgeOk (ops : Array Oper) (s q : Nat) (oq : Oper) : Prop where
  ne : s ≠ q
  at_q : ops[q]? = some oq
  sel : ∀ (j : Nat) (o : Oper) cs b, ops[j]? = some o → o.op ≠ .select cs b
  deps : ∀ os, ops[s]? = some os → ∀ e ∈ oq.after, Region.binds .any e = true → ∃ e' ∈ os.after, Region.binds .any e' = true ∧ e'.on = e.on
  apart : ∀ j oj, ops[j]? = some oj → j ≠ q → (∀ e ∈ oq.after, Region.binds .any e = true → e.on ≠ j) → (∀ e ∈ oj.after, Region.binds .any e = true → e.on ≠ q) → oq.apart ops oj = true
  guard : oq.guard = none
  pure : ∀ (a : Act) (w : World) (K : Act → World → Prop) (Q : Exit → Act → World → Prop), (∀ e a w, e ≠ .normal → ¬ Q e a w) → oq.wp P a w K Q → ∃ v, (∀ w, (execOp a.eval oq).run P w = .ok (.value v) w) ∧ K (a.put oq.dst v) w

theorem wpAny_edge {oq : Oper} (hE : EdgeOk (P := P) ops s q oq) (hQ : ∀ e a w, e ≠ .normal → ¬ Q e a w) : ∀ (fuel : Nat) (listed : Array Bool) (a : Act) (w : World), listed.size = ops.size → wpAny P .any (addE s q ops) Q fuel listed a w → wpAny P .any ops Q fuel listed a w := by
  have hq2 : ∀ {listed : Array Bool}, q ∈ Region.ready .any ops listed → q ∈ Region.ready .any (addE s q ops) listed := fun {listed} h => ready_addE.2 ⟨h, fun e => absurd e.symm hE.ne⟩
  have early : ∀ {listed : Array Bool} {i : Nat}, listed.size = ops.size → i ∈ Region.ready .any ops listed → i ∉ Region.ready .any (addE s q ops) listed → q ∈ Region.ready .any ops listed := fun {listed i} hsz h1 h2 => by
    have his : i = s := Classical.byContradiction fun hn => h2 (ready_addE.2 ⟨h1, fun e => absurd e hn⟩)
    subst his
    have hql : listed.getD q false = false := by
      cases hh : listed.getD q false with
      | true => exact absurd (ready_addE.2 ⟨h1, fun _ => hh⟩) h2
      | false => rfl
    obtain ⟨g1, g2, os, ho, g3⟩ := mem_ready'.1 h1
    have hqs : q < ops.size := (Array.getElem?_eq_some_iff.1 hE.at_q).1
    have hqt : listed.getD q true = false := by
      rw [Array.getD_eq_getD_getElem?, Array.getElem?_eq_getElem (by omega)] at hql ⊢
      exact hql
    refine mem_ready'.2 ⟨hqs, hqt, oq, hE.at_q, fun e he hb => ?_⟩
    obtain ⟨e', he', hb', hon⟩ := hE.deps os ho e he hb
    rw [← hon]
    exact g3 e' he' hb'
  intro fuel
  induction fuel with
  | zero =>
    intro listed a w hsz h
    refine ⟨?_, h.2⟩
    rcases hr : Region.ready .any ops listed with _ | ⟨i, l⟩
    · rfl
    · exfalso
      have hi : i ∈ Region.ready .any ops listed := by rw [hr]; simp
      have hn : ∀ j, j ∉ Region.ready .any (addE s q ops) listed := fun j hj => by rw [h.1] at hj; cases hj
      exact hn q (hq2 (early hsz hi (hn i)))
  | succ fuel ih =>
    intro listed a w hsz H
    by_cases hq : q ∈ Region.ready .any ops listed
    · have h1 := wpOp_addE (H.2 q (hq2 hq))
      unfold wpOp at h1
      rw [hE.at_q] at h1
      have hw : Region.wanted oq (yielded ops a.tmps) = true := by simp [Region.wanted, hE.guard]
      simp only [hw, if_true] at h1
      rcases h1 with h1 | ⟨_, x, y, h1⟩
      · obtain ⟨v, hrun, hK⟩ := hE.pure a w _ _ hQ h1
        exact wpAny_first hE.at_q hE.sel (fun c a w h => absurd h (hQ _ _ _ (by simp))) fuel listed a w (fun j oj hj hne hl hw' => hE.apart j oj hj hne (fun e he hb hj' => by
          obtain ⟨_, _, o2, ho2, h3⟩ := mem_ready'.1 hq
          rw [hE.at_q] at ho2
          obtain rfl := Option.some.inj ho2
          have h4 := h3 e he hb
          rw [hj'] at h4
          have hjs : j < ops.size := (Array.getElem?_eq_some_iff.1 hj).1
          rw [Array.getD_eq_getD_getElem?, Array.getElem?_eq_getElem (by omega)] at hl h4
          simp only [Option.getD_some] at hl h4
          rw [hl] at h4; cases h4) hw') hq (.inl ⟨hw, hrun⟩) (ih _ _ _ (by simpa using hsz) hK)
      · exact absurd h1 (hQ _ _ _ (by simp))
    · refine ⟨fun he => H.1 ?_, fun i hi => ?_⟩
      · rcases hr : Region.ready .any (addE s q ops) listed with _ | ⟨i, l⟩
        · rfl
        · have hi : i ∈ Region.ready .any (addE s q ops) listed := by rw [hr]; simp
          have := (ready_addE.1 hi).1
          rw [he] at this; cases this
      · have hi' : i ∈ Region.ready .any (addE s q ops) listed := Classical.byContradiction fun hn => hq (early hsz hi hn)
        exact wpOp_mono (fun a' w' h => ih _ _ _ (by simpa using hsz) h) (wpOp_addE (H.2 i hi'))
theorem pure_extract {oq : Oper} {x : Operand} {i : Nat} (ho : oq.op = .extract x i) (a : Act) (w : World) (K : Act → World → Prop) (Q : Exit → Act → World → Prop) (hQ : ∀ e a w, e ≠ .normal → ¬ Q e a w) (h : oq.wp P a w K Q) :
    ∃ v, (∀ w, (execOp a.eval oq).run P w = .ok (.value v) w) ∧ K (a.put oq.dst v) w := by
  unfold Oper.wp at h
  cases hx : a.eval x with
  | tuple us =>
    cases hu : us[i]? with
    | some v =>
      refine ⟨v, fun w => by simp [execOp, ho, hx, Instr.extract, hu], ?_⟩
      simpa [execOp, ho, hx, Instr.extract, hu, Oper.upon] using h
    | none => simp [execOp, ho, hx, Instr.extract, hu, Oper.upon, stuck] at h
  | _ => simp [execOp, ho, hx, Instr.extract, Oper.upon, stuck] at h
def isExtract : Op → Bool
  | .extract _ _ => true
  | _ => false
def isSelect : Op → Bool
  | .select _ _ => true
  | _ => false
def edgeB (ops : Array Oper) (s q : Nat) : Bool := s != q && match ops[q]?, ops[s]? with
  | some oq, some os => isExtract oq.op && oq.guard.isNone &&
    (oq.after.toList.all fun e => !Region.binds .any e || os.after.toList.any fun e' => Region.binds .any e' && e'.on == e.on) &&
    (List.range ops.size).all fun j => match ops[j]? with
      | some oj => !isSelect oj.op && (j == q || (oq.after.toList.any fun e => Region.binds .any e && e.on == j) || (oj.after.toList.any fun e => Region.binds .any e && e.on == q) || oq.apart ops oj)
      | none => true
  | _, _ => false
theorem edgeB_ok (h : edgeB ops s q = true) : ∃ oq, EdgeOk (P := P) ops s q oq := by
  unfold edgeB at h
  rw [Bool.and_eq_true] at h
  obtain ⟨h0, h⟩ := h
  split at h
  case h_2 => cases h
  case h_1 _ _ oq os hoq hos =>
    simp only [Bool.and_eq_true] at h
    obtain ⟨⟨⟨h1, h2⟩, h3⟩, h4⟩ := h
    have key : ∀ j oj, ops[j]? = some oj → isSelect oj.op = false ∧ (j = q ∨ (∃ e ∈ oq.after, Region.binds .any e = true ∧ e.on = j) ∨ (∃ e ∈ oj.after, Region.binds .any e = true ∧ e.on = q) ∨ oq.apart ops oj = true) := fun j oj hj => by
      have := List.all_eq_true.1 h4 j (List.mem_range.2 (Array.getElem?_eq_some_iff.1 hj).1)
      rw [hj] at this
      simp only [Bool.and_eq_true, Bool.not_eq_true', Bool.or_eq_true, beq_iff_eq, List.any_eq_true, Array.mem_toList_iff] at this
      refine ⟨this.1, ?_⟩
      rcases this.2 with ((h | h) | h) | h
      · exact .inl h
      · exact .inr (.inl h)
      · exact .inr (.inr (.inl h))
      · exact .inr (.inr (.inr h))
    refine ⟨oq, ⟨by simpa using h0, hoq, fun j o cs b hj hsel => ?_, fun os' hos' e he hb => ?_, fun j oj hj hne hd hw => ?_, by simpa using h2, ?_⟩⟩
    · have := (key j o hj).1
      rw [hsel] at this; cases this
    · obtain rfl := Option.some.inj (hos.symm.trans hos')
      have := List.all_eq_true.1 h3 e (by simpa using he)
      rw [hb] at this
      simp only [Bool.not_true, Bool.false_or, List.any_eq_true, Bool.and_eq_true, beq_iff_eq] at this
      obtain ⟨e', he', h5, h6⟩ := this
      exact ⟨e', by simpa using he', h5, h6⟩
    · rcases (key j oj hj).2 with h | ⟨e, he, hb, ho⟩ | ⟨e, he, hb, ho⟩ | h
      · exact absurd h hne
      · exact absurd ho (hd e he hb)
      · exact absurd ho (hw e he hb)
      · exact h
    · intro a w K Q hQ hh
      cases hop : oq.op with
      | extract x i => exact pure_extract hop a w K Q hQ hh
      | _ => rw [hop] at h1; cases h1
theorem upon_Q {o : Oper} {a : Act} {K : Act → World → Prop} {Q' Q : Exit → Act → World → Prop} (h : ∀ e a w, Q' e a w → Q e a w) {r : Result Next} (hh : o.upon P a K Q' r) : o.upon P a K Q r := by
  cases r with
  | ok n w' =>
    cases n <;> simp only [Oper.upon] at hh ⊢ <;> first
      | exact hh
      | exact Calls.mono hh fun e w'' he => by
          cases e with
          | returned v => exact he
          | panicked c => exact h _ _ _ he
          | outgrown => obtain ⟨x, y, hxy⟩ := he; exact ⟨x, y, h _ _ _ hxy⟩
  | halt x w' => cases x <;> simp only [Oper.upon] at hh ⊢ <;> first | exact h _ _ _ hh | exact hh.elim
theorem wpOp_Q {i : Nat} {a : Act} {w : World} {K K' : Act → World → Prop} {Q' Q : Exit → Act → World → Prop} (h : ∀ e a w, Q' e a w → Q e a w) (hK : ∀ a w, K' a w → K a w) (hh : wpOp P ops Q' i K' a w) : wpOp P ops Q i K a w := by
  have hh := wpOp_mono hK hh
  unfold wpOp at hh ⊢
  split
  · rename_i ho; rw [ho] at hh; exact hh
  · rename_i o ho
    rw [ho] at hh
    simp only at hh
    split
    · rename_i hw
      rw [if_pos hw] at hh
      rcases hh with hh | ⟨h1, x, y, h2⟩
      · exact .inl (upon_Q h hh)
      · exact .inr ⟨h1, x, y, h _ _ _ h2⟩
    · rename_i hw
      rw [if_neg hw] at hh
      exact hh
theorem wpAny_Q {Q' Q : Exit → Act → World → Prop} (h : ∀ e a w, Q' e a w → Q e a w) : ∀ (fuel : Nat) (listed : Array Bool) (a : Act) (w : World), wpAny P .any ops Q' fuel listed a w → wpAny P .any ops Q fuel listed a w
  | 0, _, _, _, hh => ⟨hh.1, h _ _ _ hh.2⟩
  | fuel + 1, _, _, _, hh => ⟨fun he => h _ _ _ (hh.1 he), fun i hi => wpOp_Q h (fun a' w' h' => wpAny_Q h fuel _ a' w' h') (hh.2 i hi)⟩
end
def addL : Nat → Nat → List Oper → List Oper
  | _, _, [] => []
  | 0, q, o :: l => behind o q :: l
  | s + 1, q, o :: l => o :: addL s q l
theorem addL_get : ∀ (s q : Nat) (l : List Oper) (i : Nat), (addL s q l)[i]? = (l[i]?).map fun o => if i = s then behind o q else o
  | _, _, [], i => by simp [addL]
  | 0, q, o :: l, 0 => by simp [addL]
  | 0, q, o :: l, i + 1 => by simp [addL]
  | s + 1, q, o :: l, 0 => by simp [addL]
  | s + 1, q, o :: l, i + 1 => by simp [addL, addL_get s q l i]
theorem addL_arr (s q : Nat) (l : List Oper) : (addL s q l).toArray = addE s q l.toArray := by
  apply Array.ext_getElem?
  intro i
  rw [addE_get]
  simp [addL_get]
section
variable {c : Cx} {N : Nat} {X0 : Nat → Prop} {M : Nat → Value → Prop} {w0 : World} {K : Exit → St → Prop}
def onlyN (K : Exit → St → Prop) : Exit → St → Prop
  | .normal, st => K .normal st
  | _, _ => False
theorem WP.flowE {id : Nat} {l : List Oper} {st : St} (s q : Nat) (zs : List Nat) (m : Nat) (fl : List Fp) (ds mks gs : List Nat) (hE : edgeB l.toArray s q = true) (hB : flowB (addL s q l).toArray m fl = true)
    (hD : ((List.range m).all fun k => match dstAt (addL s q l).toArray k with | some d => ds.contains d | none => false) = true)
    (hM : ((List.range m).all fun k => ((fpAt fl k).mks.all fun d => mks.contains d) && ((fpAt fl k).gn.all fun d => gs.contains d)) = true) (hm : c.P.follows .mixedOrders = true)
    (h : St.runG c.tys c.C N (addL s q l).toArray fl ((st.fzS zs).clean ds mks) ((addL s q l).take m) 0 [] fun acc => St.runR c.tys c.C N (addL s q l).toArray ((addL s q l).drop m) (((st.fzS zs).clean ds mks).final acc gs) (K .normal)) : WP c N X0 M w0 (.region id l.toArray true) st K := by
  intro hA β a w hs0
  have hs := Sim.fzS hA zs hs0
  generalize st.fzS zs = st at hs h
  have hD0 := flowB_ok hB
  obtain ⟨F, h1, h2⟩ := runF_acc _ _ _ (runF_of_runG _ _ _ h)
  have harr := addL_arr s q l
  have hlen : ((addL s q l).take m).length = m := by
    have := hD0.le
    simp at this ⊢
    omega
  rw [hlen] at h1
  simp only [List.nil_append, Nat.zero_add] at h1 h2
  have hcl0 : ∀ t x, lk t (st.clean ds mks).fr = some x → lk t st.fr = some x ∧ t ∉ ds ∧ ∀ d ∈ mks, x.kill d = x := fun t x hx => by
    obtain ⟨e1, e2⟩ := hide_fr hx
    obtain ⟨e3, e4⟩ := offK_lk e1
    exact ⟨e3, e4, e2⟩
  have hMk : ∀ k, k < m → (∀ d ∈ (fpAt fl k).mks, d ∈ mks) ∧ ∀ d ∈ (fpAt fl k).gn, d ∈ gs := fun k hk => by
    have := List.all_eq_true.1 hM k (List.mem_range.2 hk)
    simp only [Bool.and_eq_true, List.all_eq_true] at this
    exact ⟨fun d hd => List.contains_iff_mem.1 (this.1 d hd), fun d hd => List.contains_iff_mem.1 (this.2 d hd)⟩
  obtain ⟨oq, hEo⟩ := edgeB_ok (P := c.P) hE
  have hsz : (addL s q l).toArray.size = l.toArray.size := by rw [harr]; unfold addE; rw [Array.size_modify]
  refine wp_region_any hm (wpAny_Q (Q' := fun e a' w' => Ok N X0 M w0 (onlyN K e) a' w') (fun e a' w' hk => ?_) _ _ _ _ (wpAny_edge hEo (fun e a' w' hne hk => ?_) _ _ _ _ (by simp) ?_))
  · cases e with
    | normal => exact hk
    | _ => obtain ⟨_, _, hf, _⟩ := hk; exact hf.elim
  · cases e with
    | normal => exact hne rfl
    | _ => obtain ⟨_, _, hf, _⟩ := hk; exact hf.elim
  rw [← harr, ← hsz]
  refine (flow_head (c := c) (K := onlyN K) hA hD0 (base := st.clean ds mks) (F := F) (gs := gs) (fun k o hk ho => ?_) (fun t x hx => ⟨fun k hk e => ?_, fun k hk d hd => (hcl0 t x hx).2.2 d ((hMk k hk).1 d hd)⟩) (fun t ob hx k hk d hd => (hide_hp hx).2 d ((hMk k hk).1 d hd)) (fun k hk => (hMk k hk).2) ?_
    (addL s q l).toArray.size (Array.replicate (addL s q l).toArray.size false) (st.clean ds mks) β a _ (by simp) (fun j _ hj => ?_) ?_ (fun b hb hl => ?_) ?_ (fun t x hx _ => hx) (fun k hk hl => ?_) (fun t ob hx _ => hx) (fun k hk hl => ?_))
  · have : ((addL s q l).take m)[k]? = some o := by rw [List.getElem?_take_of_lt hk]; simpa using ho
    exact h2 k o this
  · have := List.all_eq_true.1 hD k (List.mem_range.2 hk)
    rw [e] at this
    exact (hcl0 t x hx).2.1 (List.contains_iff_mem.1 this)
  · exact h1
  · rw [Array.getD_eq_getD_getElem?, Array.getElem?_replicate]; split <;> rfl
  · have : (List.range (addL s q l).toArray.size).countP (fun j => !(Array.replicate (addL s q l).toArray.size false).getD j false) = (List.range (addL s q l).toArray.size).countP (fun _ => true) := by
      apply List.countP_congr
      intro j hj
      rw [Array.getD_eq_getD_getElem?, Array.getElem?_replicate]; split <;> simp
    rw [this]; simp
  · rw [Array.getD_eq_getD_getElem?, Array.getElem?_replicate] at hl
    split at hl <;> cases hl
  · exact (hs.grow ((Go.RowKit.Below.refl _ _).drew) (fun b _ hb => .inl hb) hs.x0).less (fun t x hx => (hcl0 t x hx).1) (fun t ob hx => (hide_hp hx).1)
  · rw [Array.getD_eq_getD_getElem?, Array.getElem?_replicate] at hl
    split at hl <;> cases hl
  · rw [Array.getD_eq_getD_getElem?, Array.getElem?_replicate] at hl
    split at hl <;> cases hl
end
end Go.Vc

/-
  DERIVED. ProfileOf, of the reference.
-/
namespace Go.Proofs.YtklcphbgaeiegaaGreatDoor
open Go.Vc
set_option linter.unusedSimpArgs false
set_option linter.unusedVariables false
set_option maxHeartbeats 1000000
set_option maxRecDepth 10000
attribute [local go_sem] St.runR St.runW St.stepV offV St.step St.stepU St.stepG mkCond guardB St.prK St.pr St.prLen St.eff St.callE St.callD St.callF St.callL aI aB aS aR aC St.isM St.argL Ctr.pure Ctr.lend Ctr.move Ctr.isL Ctr.wri pur len lentBy St.lentV St.lent1 nthS argsR restOf obsR pairs swapL unObs backL St.resL erL SV.ren1 SV.up SV.up2 Ob.up St.fzL cellIds partIds St.intoRow SV.ownId St.fz SV.fz1 St.prep St.mvL St.mv SV.re1 rnOk St.prEq vals eqCells scEq Value.kd St.prStr St.prCut cutR St.bnd St.prMin St.bld isShift outL retL outJ oR oC St.ev St.get St.put St.new St.kill SV.kill SV.kill1 Ob.kill St.app St.wrt St.rowsOf St.res St.killL lk er argsL SV.strip SV.need SV.share SV.share1 SV.owns SV.owns1 SV.owns2 SV.good SV.good1 SV.rok SV.rok1 SV.rok2 SV.isV SV.isV2 nodupN SV.cells SV.one SV.pur Ob.pb partsIn rowsIn splice cellsAt dstOk scal2 scal1 thenK blockK retK outK outs okC okL okA okT nilC nilL nilA nilT keepC keepL keepA keepT St.runG St.dltK St.least St.clean St.final St.hide offK badS badO SV.refs SV.leaf SV.leaf2 Ob.refs dlOk fpAt Go.Vc.cover tups SV.ofAgg St.out outC subL St.has rng wr Value.oneCell' Option.isSome_some Option.isSome_none List.nil_append Bool.false_eq_true List.map_cons List.map_nil List.all_cons List.all_nil List.length_cons List.length_nil List.drop_zero List.drop_succ_cons List.take_succ_cons List.take_zero List.drop_nil List.take_nil List.getElem?_cons_zero List.getElem?_cons_succ List.getElem?_nil List.cons_append List.nil_append List.append_nil List.append_assoc List.flatMap_cons List.flatMap_nil List.contains_cons List.contains_nil List.set_cons_zero List.set_cons_succ List.getElem?_toArray Option.getD_some Option.getD_none Option.map_some Option.map_none Option.bind_some Option.some.injEq Prod.mk.injEq if_true if_false true_and and_true and_self and_false false_and Bool.and_false Bool.false_and Bool.or_true Bool.true_or Bool.or_false Bool.false_or ne_eq not_true_eq_false not_false_eq_true decide_true decide_false List.mem_cons List.not_mem_nil List.filter_cons List.filter_nil List.any_cons List.any_nil List.isEmpty_nil List.isEmpty_cons Option.getD_none or_false false_or true_or or_true forall_eq_or_imp forall_eq reduceCtorEq exists_eq exists_eq' exists_eq_left' exists_eq_left exists_eq_right exists_eq_right' imp_self implies_true Bool.and_true Bool.true_and Bool.and_self beq_self_eq_true List.replicate_succ List.replicate_zero forall_const false_implies pickB_or pickB_and beqT beqF Int.toNat_natCast List.length_map List.length_replicate ge_iff_le gt_iff_lt decide_eq_true_eq decide_eq_false_iff_not Bool.and_eq_true Bool.or_eq_true Bool.not_eq_true' Bool.not_eq_false' condG List.toList_toArray Bool.or_eq_false_iff Bool.and_eq_false_iff Int.not_lt Int.not_le beq_iff_eq beq_eq_false_iff_ne bne_iff_ne bne_eq_false_iff_eq ne_eq Bool.not_true Bool.not_false exists_and_left
attribute [local irreducible] Go.Vc.WP
attribute [local go_sem] cx0_t cx0_c
attribute [local go_sem] isV_Node isV_It isV_Entry decNode_enc decFrame_enc oneFrame_enc stkA oneFrame_ab oneNode_abc decI_enc decS_enc aU prA decEntry_enc St.ado St.adoptB St.adoptS rp isNil St.fzS addL behind
section
noncomputable def cxPfS : Cx := { P := Tryz.prog, tys := tys, C := [(39, kParseF), (115, kAddStack)], hty := tysOk, hC := COk.cons cParseFS (COk.cons cAddStackS (COk.nil _)) }
theorem cxPfS_t : cxPfS.tys = tys := rfl
theorem cxPfS_c : cxPfS.C = [(39, kParseF), (115, kAddStack)] := rfl
attribute [local go_sem] cxPfS_t cxPfS_c kParseF kAddStack
theorem cProfOfS : Cn Tryz.prog 86 kProfOf := by
  refine Cn.pur Tryz.func86 (by kernel_rfl) rfl fun d x hx => ?_
  rename List Entry => L
  have hL := hx.1
  refine Holds.go (c := cxPfS) Tryz.func86 rfl Tryz.results86 Tryz.ntmps86 (by omega) (by simp) rfl ?_
  intro X0 w0
  (repeat' (first | refine WP.seq ?_ | refine WP.block ?_ | ((first | refine WP.region ?_ | refine WP.condW ?_ | refine WP.ret ?_ | refine WP.exit ?_ | refine WP.skip ?_); simp only [go_sem, tyAll, Nat.reduceAdd, Nat.reduceLT, Nat.reduceLeDiff, Nat.reduceEqDiff, Nat.reduceMul, Nat.reduceSub, Nat.reduceGT, reduceIte, Int.reduceNeg, Int.reduceToNat]) | (refine WP.flowE 12 10 [] 12 [⟨[4], [], [], [8, 34, 1034], [], []⟩, ⟨[6], [], [], [8, 34, 1034], [], []⟩, ⟨[0], [], [], [8, 34, 1034], [], []⟩, ⟨[5], [], [], [8, 34, 1034], [], []⟩, ⟨[29, 30], [2, 3], [], [8, 34, 1034], [], []⟩, ⟨[31], [2, 3, 4], [], [8, 34, 1034], [], []⟩, ⟨[32], [2, 3, 4, 5], [], [8, 34, 1034], [], []⟩, ⟨[27, 28, 33], [0, 1, 2, 3, 4, 5, 6], [], [8], [], [34, 1034]⟩, ⟨[34], [0, 1, 2, 3, 4, 5, 6, 7], [], [8], [], []⟩, ⟨[26], [0, 1, 2, 3, 4, 5, 6, 7, 8], [], [8], [], []⟩, ⟨[26], [0, 1, 2, 3, 4, 5, 6, 7, 8], [], [8], [], []⟩, ⟨[], [], [], [34, 1034], [], [8]⟩, ⟨[], [0, 1, 2, 3, 4, 5, 6, 7, 8, 9, 10, 11], [], [], [], []⟩, ⟨[], [0, 1, 2, 3, 4, 5, 6, 7, 8, 9, 10, 11, 12], [], [], [], []⟩] [8, 26, 27, 28, 29, 30, 31, 32, 33, 34, 35, 36] [8, 34, 1034] [] (by decide +kernel) (by decide +kernel) (by kernel_rfl) (by kernel_rfl) (by kernel_rfl) ?_; simp only [go_sem, tyAll, Nat.reduceAdd, Nat.reduceLT, Nat.reduceLeDiff, Nat.reduceEqDiff, Nat.reduceMul, Nat.reduceSub, Nat.reduceGT, reduceIte, Int.reduceNeg, Int.reduceToNat]) |  refine And.intro ?_ ?_ | intro _))
  all_goals first | omega | skip
  refine WP.ado [.b 4 0 34 157 3, .b 4 1 1034 3 1] ?_
  refine WP.loop (fun q : Nat × List Node × List Int => ⟨[(0, .sl 2 (L.map encEntry)), (2, .ptr 2 0 0 0), (4, .ptr 4 0 0 0), (5, .v (.int .i64 q.1))],
    [(2, .box 29 [.v (.slice none 0 0), .v (.slice none 0 0)]), (4, .box 29 [.own 34, .own 1034]), (34, .sl 157 3 (q.2.1.map encNode)), (1034, .sl 3 1 (q.2.2.map encI))]⟩)
    (fun q => q.1 ≤ L.length ∧ eInv L q.1 q.2) (fun q => L.length - q.1) (0, [], []) ⟨by simp, eInv_zero L⟩ ?_ ?_
  · (simp only [go_sem, tyAll, Nat.reduceAdd, Nat.reduceLT, Nat.reduceLeDiff, Nat.reduceEqDiff, Nat.reduceMul, Nat.reduceSub, Nat.reduceGT, reduceIte, Int.reduceNeg, Int.reduceToNat] <;> (first | rfl | exact ⟨rfl, rfl⟩ | exact ⟨rfl, rfl, rfl⟩ | exact ⟨rfl, rfl, rfl, rfl⟩ | exact ⟨rfl, rfl, rfl, rfl, rfl⟩ | exact ⟨⟨rfl, rfl⟩, rfl⟩ | simp))
  rintro ⟨k, N, C⟩ ⟨hk, hI⟩
  simp only at hk hI ⊢
  refine WP.prep [] [(34, 50), (1034, 1050)] rfl ?_
  have h2 := hI.2.1
  have h3 := hI.2.2.1
  have h4 := hI.2.2.2
  simp only at h2 h3 h4
  have hnb : ∀ x ∈ N, x.name.size ≤ 1099511627776 := fun x hx => by have := h4 x hx; omega
  by_cases hlt : k < L.length
  · have hli : (k : Int) < L.length := by omega
    have h1 := rowAt_map encEntry L k hlt
    have hsz := hx.2 _ (List.getElem_mem hlt)
    cases hp : parseF L[k].stack with
    | none =>
      have hno := eInv_none hI hlt hp
      have hemp := addStack_nil N C L[k].count
      have hdf : decFrame [] = [] := rfl
      (repeat' (first | refine WP.seq ?_ | refine WP.block ?_ | ((first | refine WP.region ?_ | refine WP.condW ?_ | refine WP.ret ?_ | refine WP.exit ?_ | refine WP.skip ?_); simp only [go_sem, hli, h1, encEntry, hp, hemp, hdf, tyAll, Nat.reduceAdd, Nat.reduceLT, Nat.reduceLeDiff, Nat.reduceEqDiff, Nat.reduceMul, Nat.reduceSub, Nat.reduceGT, reduceIte, Int.reduceNeg, Int.reduceToNat]) | (refine WP.flowE 12 10 [] 12 [⟨[4], [], [], [8, 34, 1034], [], []⟩, ⟨[6], [], [], [8, 34, 1034], [], []⟩, ⟨[0], [], [], [8, 34, 1034], [], []⟩, ⟨[5], [], [], [8, 34, 1034], [], []⟩, ⟨[29, 30], [2, 3], [], [8, 34, 1034], [], []⟩, ⟨[31], [2, 3, 4], [], [8, 34, 1034], [], []⟩, ⟨[32], [2, 3, 4, 5], [], [8, 34, 1034], [], []⟩, ⟨[27, 28, 33], [0, 1, 2, 3, 4, 5, 6], [], [8], [], [34, 1034]⟩, ⟨[34], [0, 1, 2, 3, 4, 5, 6, 7], [], [8], [], []⟩, ⟨[26], [0, 1, 2, 3, 4, 5, 6, 7, 8], [], [8], [], []⟩, ⟨[26], [0, 1, 2, 3, 4, 5, 6, 7, 8], [], [8], [], []⟩, ⟨[], [], [], [34, 1034], [], [8]⟩, ⟨[], [0, 1, 2, 3, 4, 5, 6, 7, 8, 9, 10, 11], [], [], [], []⟩, ⟨[], [0, 1, 2, 3, 4, 5, 6, 7, 8, 9, 10, 11, 12], [], [], [], []⟩] [8, 26, 27, 28, 29, 30, 31, 32, 33, 34, 35, 36] [8, 34, 1034] [] (by decide +kernel) (by decide +kernel) (by kernel_rfl) (by kernel_rfl) (by kernel_rfl) ?_; simp only [go_sem, hli, h1, encEntry, hp, hemp, hdf, tyAll, Nat.reduceAdd, Nat.reduceLT, Nat.reduceLeDiff, Nat.reduceEqDiff, Nat.reduceMul, Nat.reduceSub, Nat.reduceGT, reduceIte, Int.reduceNeg, Int.reduceToNat]) |  refine And.intro ?_ ?_ | intro _))
      all_goals first | omega | (simp only [List.length_nil]; omega) | exact hnb _ ‹_› | (simp only [List.not_mem_nil] at *; done) | exact ⟨_, _, _, rfl⟩ | exact ⟨_, _, rfl, _, _, rfl, rfl⟩ | (rw [hno]; first | rfl | exact ⟨_, _, rfl⟩ | exact ⟨_, _, if_neg (by omega)⟩ | exact if_neg (by omega)) | skip
    | some f =>
      obtain ⟨h5, h6⟩ := parseF_small hp
      have hfb : ∀ g ∈ f, g.name.size ≤ 1099511627776 := fun g hg => by have := h6 g hg; omega
      cases hb : (addStack N C f L[k].count).2 with
      | false =>
        have hno := eInv_bad hI hlt hp hb
        (repeat' (first | refine WP.seq ?_ | refine WP.block ?_ | ((first | refine WP.region ?_ | refine WP.condW ?_ | refine WP.ret ?_ | refine WP.exit ?_ | refine WP.skip ?_); simp only [go_sem, hli, h1, encEntry, hp, hb, tyAll, Nat.reduceAdd, Nat.reduceLT, Nat.reduceLeDiff, Nat.reduceEqDiff, Nat.reduceMul, Nat.reduceSub, Nat.reduceGT, reduceIte, Int.reduceNeg, Int.reduceToNat]) | (refine WP.flowE 12 10 [] 12 [⟨[4], [], [], [8, 34, 1034], [], []⟩, ⟨[6], [], [], [8, 34, 1034], [], []⟩, ⟨[0], [], [], [8, 34, 1034], [], []⟩, ⟨[5], [], [], [8, 34, 1034], [], []⟩, ⟨[29, 30], [2, 3], [], [8, 34, 1034], [], []⟩, ⟨[31], [2, 3, 4], [], [8, 34, 1034], [], []⟩, ⟨[32], [2, 3, 4, 5], [], [8, 34, 1034], [], []⟩, ⟨[27, 28, 33], [0, 1, 2, 3, 4, 5, 6], [], [8], [], [34, 1034]⟩, ⟨[34], [0, 1, 2, 3, 4, 5, 6, 7], [], [8], [], []⟩, ⟨[26], [0, 1, 2, 3, 4, 5, 6, 7, 8], [], [8], [], []⟩, ⟨[26], [0, 1, 2, 3, 4, 5, 6, 7, 8], [], [8], [], []⟩, ⟨[], [], [], [34, 1034], [], [8]⟩, ⟨[], [0, 1, 2, 3, 4, 5, 6, 7, 8, 9, 10, 11], [], [], [], []⟩, ⟨[], [0, 1, 2, 3, 4, 5, 6, 7, 8, 9, 10, 11, 12], [], [], [], []⟩] [8, 26, 27, 28, 29, 30, 31, 32, 33, 34, 35, 36] [8, 34, 1034] [] (by decide +kernel) (by decide +kernel) (by kernel_rfl) (by kernel_rfl) (by kernel_rfl) ?_; simp only [go_sem, hli, h1, encEntry, hp, hb, tyAll, Nat.reduceAdd, Nat.reduceLT, Nat.reduceLeDiff, Nat.reduceEqDiff, Nat.reduceMul, Nat.reduceSub, Nat.reduceGT, reduceIte, Int.reduceNeg, Int.reduceToNat]) |  refine And.intro ?_ ?_ | intro _))
        all_goals first | omega | (simp only; omega) | exact hnb _ ‹_› | exact hfb _ ‹_› | exact ⟨_, _, _, rfl⟩ | exact ⟨_, _, rfl, _, _, rfl, rfl⟩ | (rw [hno]; first | rfl | exact ⟨_, _, rfl⟩ | exact ⟨_, _, if_neg (by omega)⟩ | exact if_neg (by omega)) | skip
      | true =>
        have hyes := eInv_ok hx hI hlt hp hb
        (repeat' (first | refine WP.seq ?_ | refine WP.block ?_ | ((first | refine WP.region ?_ | refine WP.condW ?_ | refine WP.ret ?_ | refine WP.exit ?_ | refine WP.skip ?_); simp only [go_sem, hli, h1, encEntry, hp, hb, tyAll, Nat.reduceAdd, Nat.reduceLT, Nat.reduceLeDiff, Nat.reduceEqDiff, Nat.reduceMul, Nat.reduceSub, Nat.reduceGT, reduceIte, Int.reduceNeg, Int.reduceToNat]) | (refine WP.flowE 12 10 [] 12 [⟨[4], [], [], [8, 34, 1034], [], []⟩, ⟨[6], [], [], [8, 34, 1034], [], []⟩, ⟨[0], [], [], [8, 34, 1034], [], []⟩, ⟨[5], [], [], [8, 34, 1034], [], []⟩, ⟨[29, 30], [2, 3], [], [8, 34, 1034], [], []⟩, ⟨[31], [2, 3, 4], [], [8, 34, 1034], [], []⟩, ⟨[32], [2, 3, 4, 5], [], [8, 34, 1034], [], []⟩, ⟨[27, 28, 33], [0, 1, 2, 3, 4, 5, 6], [], [8], [], [34, 1034]⟩, ⟨[34], [0, 1, 2, 3, 4, 5, 6, 7], [], [8], [], []⟩, ⟨[26], [0, 1, 2, 3, 4, 5, 6, 7, 8], [], [8], [], []⟩, ⟨[26], [0, 1, 2, 3, 4, 5, 6, 7, 8], [], [8], [], []⟩, ⟨[], [], [], [34, 1034], [], [8]⟩, ⟨[], [0, 1, 2, 3, 4, 5, 6, 7, 8, 9, 10, 11], [], [], [], []⟩, ⟨[], [0, 1, 2, 3, 4, 5, 6, 7, 8, 9, 10, 11, 12], [], [], [], []⟩] [8, 26, 27, 28, 29, 30, 31, 32, 33, 34, 35, 36] [8, 34, 1034] [] (by decide +kernel) (by decide +kernel) (by kernel_rfl) (by kernel_rfl) (by kernel_rfl) ?_; simp only [go_sem, hli, h1, encEntry, hp, hb, tyAll, Nat.reduceAdd, Nat.reduceLT, Nat.reduceLeDiff, Nat.reduceEqDiff, Nat.reduceMul, Nat.reduceSub, Nat.reduceGT, reduceIte, Int.reduceNeg, Int.reduceToNat]) |  refine And.intro ?_ ?_ | intro _))
        all_goals first | omega | (simp only; omega) | exact hnb _ ‹_› | exact hfb _ ‹_› | exact ⟨_, _, _, rfl⟩ | exact ⟨_, _, rfl, _, _, rfl, rfl⟩ | skip
        exact ⟨(k + 1, (addStack N C f L[k].count).1), ⟨by simp only; omega, hyes⟩, by simp only; omega, rfl, rfl, rfl⟩
  · have hge : ¬ (k : Int) < L.length := by omega
    have he := eInv_end hI (by omega)
    (repeat' (first | refine WP.seq ?_ | refine WP.block ?_ | ((first | refine WP.region ?_ | refine WP.condW ?_ | refine WP.ret ?_ | refine WP.exit ?_ | refine WP.skip ?_); simp only [go_sem, hge, tyAll, Nat.reduceAdd, Nat.reduceLT, Nat.reduceLeDiff, Nat.reduceEqDiff, Nat.reduceMul, Nat.reduceSub, Nat.reduceGT, reduceIte, Int.reduceNeg, Int.reduceToNat]) | (refine WP.flowE 12 10 [] 12 [⟨[4], [], [], [8, 34, 1034], [], []⟩, ⟨[6], [], [], [8, 34, 1034], [], []⟩, ⟨[0], [], [], [8, 34, 1034], [], []⟩, ⟨[5], [], [], [8, 34, 1034], [], []⟩, ⟨[29, 30], [2, 3], [], [8, 34, 1034], [], []⟩, ⟨[31], [2, 3, 4], [], [8, 34, 1034], [], []⟩, ⟨[32], [2, 3, 4, 5], [], [8, 34, 1034], [], []⟩, ⟨[27, 28, 33], [0, 1, 2, 3, 4, 5, 6], [], [8], [], [34, 1034]⟩, ⟨[34], [0, 1, 2, 3, 4, 5, 6, 7], [], [8], [], []⟩, ⟨[26], [0, 1, 2, 3, 4, 5, 6, 7, 8], [], [8], [], []⟩, ⟨[26], [0, 1, 2, 3, 4, 5, 6, 7, 8], [], [8], [], []⟩, ⟨[], [], [], [34, 1034], [], [8]⟩, ⟨[], [0, 1, 2, 3, 4, 5, 6, 7, 8, 9, 10, 11], [], [], [], []⟩, ⟨[], [0, 1, 2, 3, 4, 5, 6, 7, 8, 9, 10, 11, 12], [], [], [], []⟩] [8, 26, 27, 28, 29, 30, 31, 32, 33, 34, 35, 36] [8, 34, 1034] [] (by decide +kernel) (by decide +kernel) (by kernel_rfl) (by kernel_rfl) (by kernel_rfl) ?_; simp only [go_sem, hge, tyAll, Nat.reduceAdd, Nat.reduceLT, Nat.reduceLeDiff, Nat.reduceEqDiff, Nat.reduceMul, Nat.reduceSub, Nat.reduceGT, reduceIte, Int.reduceNeg, Int.reduceToNat]) |  refine And.intro ?_ ?_ | intro _))
    all_goals first | omega | exact ⟨_, _, rfl, _, _, rfl, rfl⟩ | (rw [he]; first | rfl | exact if_neg (by omega)) | skip
end
end Go.Proofs.YtklcphbgaeiegaaGreatDoor

/-
  DERIVED. StackAt and InternStack, of the reference and of the program.
-/
namespace Go.Proofs.YtklcphbgaeiegaaGreatDoor
open Go.Vc
set_option linter.unusedSimpArgs false
set_option linter.unusedVariables false
set_option maxHeartbeats 1000000
set_option maxRecDepth 10000
attribute [local go_sem] St.runR St.runW St.stepV offV St.step St.stepU St.stepG mkCond guardB St.prK St.pr St.prLen St.eff St.callE St.callD St.callF St.callL aI aB aS aR aC St.isM St.argL Ctr.pure Ctr.lend Ctr.move Ctr.isL Ctr.wri pur len lentBy St.lentV St.lent1 nthS argsR restOf obsR pairs swapL unObs backL St.resL erL SV.ren1 SV.up SV.up2 Ob.up St.fzL cellIds partIds St.intoRow SV.ownId St.fz SV.fz1 St.prep St.mvL St.mv SV.re1 rnOk St.prEq vals eqCells scEq Value.kd St.prStr St.prCut cutR St.bnd St.prMin St.bld isShift outL retL outJ oR oC St.ev St.get St.put St.new St.kill SV.kill SV.kill1 Ob.kill St.app St.wrt St.rowsOf St.res St.killL lk er argsL SV.strip SV.need SV.share SV.share1 SV.owns SV.owns1 SV.owns2 SV.good SV.good1 SV.rok SV.rok1 SV.rok2 SV.isV SV.isV2 nodupN SV.cells SV.one SV.pur Ob.pb partsIn rowsIn splice cellsAt dstOk scal2 scal1 thenK blockK retK outK outs okC okL okA okT nilC nilL nilA nilT keepC keepL keepA keepT St.runG St.dltK St.least St.clean St.final St.hide offK badS badO SV.refs SV.leaf SV.leaf2 Ob.refs dlOk fpAt Go.Vc.cover tups SV.ofAgg St.out outC subL St.has rng wr Value.oneCell' Option.isSome_some Option.isSome_none List.nil_append Bool.false_eq_true List.map_cons List.map_nil List.all_cons List.all_nil List.length_cons List.length_nil List.drop_zero List.drop_succ_cons List.take_succ_cons List.take_zero List.drop_nil List.take_nil List.getElem?_cons_zero List.getElem?_cons_succ List.getElem?_nil List.cons_append List.nil_append List.append_nil List.append_assoc List.flatMap_cons List.flatMap_nil List.contains_cons List.contains_nil List.set_cons_zero List.set_cons_succ List.getElem?_toArray Option.getD_some Option.getD_none Option.map_some Option.map_none Option.bind_some Option.some.injEq Prod.mk.injEq if_true if_false true_and and_true and_self and_false false_and Bool.and_false Bool.false_and Bool.or_true Bool.true_or Bool.or_false Bool.false_or ne_eq not_true_eq_false not_false_eq_true decide_true decide_false List.mem_cons List.not_mem_nil List.filter_cons List.filter_nil List.any_cons List.any_nil List.isEmpty_nil List.isEmpty_cons Option.getD_none or_false false_or true_or or_true forall_eq_or_imp forall_eq reduceCtorEq exists_eq exists_eq' exists_eq_left' exists_eq_left exists_eq_right exists_eq_right' imp_self implies_true Bool.and_true Bool.true_and Bool.and_self beq_self_eq_true List.replicate_succ List.replicate_zero forall_const false_implies pickB_or pickB_and beqT beqF Int.toNat_natCast List.length_map List.length_replicate ge_iff_le gt_iff_lt decide_eq_true_eq decide_eq_false_iff_not Bool.and_eq_true Bool.or_eq_true Bool.not_eq_true' Bool.not_eq_false' condG List.toList_toArray Bool.or_eq_false_iff Bool.and_eq_false_iff Int.not_lt Int.not_le beq_iff_eq beq_eq_false_iff_ne bne_iff_ne bne_eq_false_iff_eq ne_eq Bool.not_true Bool.not_false exists_and_left
attribute [local irreducible] Go.Vc.WP
attribute [local go_sem] cx0_t cx0_c
attribute [local go_sem] decNode_enc oneFrame_enc stkA oneFrame_ab oneNode_abc
def kStackAt : Ctr := pur (fun args => (stkA args 0, aI args 1)) (fun x => [.agg [.sl 3 (x.1.map encNode)], .v (.int .i64 x.2)]) (fun x => wfN x.1) (fun d _ => .own d) (fun d x => [(d, .sl 46 2 ((stackAt x.1 x.2).map encFrame))])
section
noncomputable def cxSaS : Cx := { P := Tryz.prog, tys := tys, C := [(127, kStOk)], hty := tysOk, hC := COk.cons cStOkS (COk.nil _) }
theorem cxSaS_t : cxSaS.tys = tys := rfl
theorem cxSaS_c : cxSaS.C = [(127, kStOk)] := rfl
attribute [local go_sem] cxSaS_t cxSaS_c kStOk
theorem cStackAtS : Cn Tryz.prog 89 kStackAt := by
  refine Cn.pur Tryz.func89 (by kernel_rfl) rfl fun d x hx => ?_
  obtain ⟨N, k⟩ := x
  simp only at hx ⊢
  have hN := hx.1
  refine Holds.go (c := cxSaS) Tryz.func89 rfl Tryz.results89 Tryz.ntmps89 (by omega) (by simp) rfl ?_
  intro X0 w0
  (repeat' (first | refine WP.seq ?_ | refine WP.block ?_ | ((first | refine WP.region ?_ | refine WP.condW ?_ | refine WP.ret ?_ | refine WP.exit ?_ | refine WP.skip ?_); simp only [go_sem, tyAll, Nat.reduceAdd, Nat.reduceLT, Nat.reduceLeDiff, Nat.reduceEqDiff, Nat.reduceMul, Nat.reduceSub, Nat.reduceGT, reduceIte, Int.reduceNeg, Int.reduceToNat]) |  refine And.intro ?_ ?_ | intro _))
  all_goals first | omega | exact hx.2 _ ‹_› | skip
  · rename_i h
    have he : stackAt N k = [] := if_neg (fun hc => by
      rcases h with h | h
      · rw [hc.1] at h; cases h
      · omega)
    rw [he]; (first | rfl | exact ⟨rfl, rfl⟩ | exact ⟨rfl, rfl, rfl⟩ | exact ⟨rfl, rfl, rfl, rfl⟩ | exact ⟨rfl, rfl, rfl, rfl, rfl⟩ | exact ⟨⟨rfl, rfl⟩, rfl⟩ | simp)
  rename_i hok'
  obtain ⟨hok, hkl⟩ := hok'
  by_cases hk0 : 0 ≤ k
  · refine WP.prep [] [(6, 5)] rfl ?_
    have hp : stackAt N k = (upF N (k.toNat + 1) k).reverse := if_pos ⟨hok, hk0, by omega⟩
    refine WP.loopP [] [(26, 5)] rfl (fun s : Int × Nat × List Frame => ⟨[(1, .v (.int .i64 s.1)), (2, .ptr 2 0 0 0), (5, .own 5)], [(2, .box 26 [.sl 3 (N.map encNode)]), (5, .sl 46 2 (s.2.2.map encFrame))]⟩)
      (fun s => -1 ≤ s.1 ∧ s.1 < N.length ∧ s.1 < s.2.1 ∧ (upF N s.2.1 s.1).reverse ++ s.2.2 = stackAt N k ∧ s.2.2.length + s.2.1 ≤ N.length) (fun s => (s.1 + 1).toNat) (k, k.toNat + 1, []) ⟨by simp only; omega, by simp only; omega, by simp only; omega, by simp [hp], by simp only [List.length_nil]; omega⟩ ?_ ?_
    · (simp only [go_sem, tyAll, Nat.reduceAdd, Nat.reduceLT, Nat.reduceLeDiff, Nat.reduceEqDiff, Nat.reduceMul, Nat.reduceSub, Nat.reduceGT, reduceIte, Int.reduceNeg, Int.reduceToNat] <;> (first | rfl | exact ⟨rfl, rfl⟩ | exact ⟨rfl, rfl, rfl⟩ | exact ⟨rfl, rfl, rfl, rfl⟩ | exact ⟨rfl, rfl, rfl, rfl, rfl⟩ | exact ⟨⟨rfl, rfl⟩, rfl⟩ | simp))
    rintro ⟨q, f, out⟩ ⟨h0, h1, h2, h3, h4⟩
    simp only at h0 h1 h2 h3 h4 ⊢
    rcases Int.lt_or_le q 0 with hneg | hpos
    · rw [upF_neg N f q hneg] at h3
      have h3 : out = stackAt N k := h3
      (repeat' (first | refine WP.seq ?_ | refine WP.block ?_ | ((first | refine WP.region ?_ | refine WP.condW ?_ | refine WP.ret ?_ | refine WP.exit ?_ | refine WP.skip ?_); simp only [go_sem, tyAll, Nat.reduceAdd, Nat.reduceLT, Nat.reduceLeDiff, Nat.reduceEqDiff, Nat.reduceMul, Nat.reduceSub, Nat.reduceGT, reduceIte, Int.reduceNeg, Int.reduceToNat]) |  refine And.intro ?_ ?_ | intro _))
      all_goals first | omega | skip
      all_goals rw [h3]
    · obtain ⟨q, rfl⟩ := Int.eq_ofNat_of_zero_le hpos
      have hq : q < N.length := by omega
      have h5 := rowAt_map encNode N q hq
      have h6 := stNode_iff.1 (stacksOk_at hok q hq)
      rw [upF_pos N f q hq (by omega)] at h3
      (repeat' (first | refine WP.seq ?_ | refine WP.block ?_ | ((first | refine WP.region ?_ | refine WP.condW ?_ | refine WP.ret ?_ | refine WP.exit ?_ | refine WP.skip ?_); simp only [go_sem, h5, encNode, tyAll, Nat.reduceAdd, Nat.reduceLT, Nat.reduceLeDiff, Nat.reduceEqDiff, Nat.reduceMul, Nat.reduceSub, Nat.reduceGT, reduceIte, Int.reduceNeg, Int.reduceToNat]) |  refine And.intro ?_ ?_ | intro _))
      all_goals first | omega | exact rlFrame ‹_› | skip
      exact ⟨(N[q].parent, f - 1, nodeFr N[q] :: out), ⟨by simp only; omega, by simp only; omega, by simp only; omega, by simp only; rw [← h3]; simp, by simp only [List.length_cons]; omega⟩, by simp only; omega, by (first | rfl | exact ⟨rfl, rfl⟩ | exact ⟨rfl, rfl, rfl⟩ | exact ⟨rfl, rfl, rfl, rfl⟩ | exact ⟨rfl, rfl, rfl, rfl, rfl⟩ | exact ⟨⟨rfl, rfl⟩, rfl⟩ | simp)⟩
  · have hp : stackAt N k = [] := if_neg fun hc => hk0 hc.2.1
    refine WP.loop (fun _ : Unit => ⟨[(1, .v (.int .i64 k)), (5, .own 6)], [(6, .sl 46 2 [])]⟩) (fun _ => True) (fun _ => 0) () trivial ?_ ?_
    · (simp only [go_sem, tyAll, Nat.reduceAdd, Nat.reduceLT, Nat.reduceLeDiff, Nat.reduceEqDiff, Nat.reduceMul, Nat.reduceSub, Nat.reduceGT, reduceIte, Int.reduceNeg, Int.reduceToNat] <;> (first | rfl | exact ⟨rfl, rfl⟩ | exact ⟨rfl, rfl, rfl⟩ | exact ⟨rfl, rfl, rfl, rfl⟩ | exact ⟨rfl, rfl, rfl, rfl, rfl⟩ | exact ⟨⟨rfl, rfl⟩, rfl⟩ | simp))
    intro _ _
    (repeat' (first | refine WP.seq ?_ | refine WP.block ?_ | ((first | refine WP.region ?_ | refine WP.condW ?_ | refine WP.ret ?_ | refine WP.exit ?_ | refine WP.skip ?_); simp only [go_sem, hp, tyAll, Nat.reduceAdd, Nat.reduceLT, Nat.reduceLeDiff, Nat.reduceEqDiff, Nat.reduceMul, Nat.reduceSub, Nat.reduceGT, reduceIte, Int.reduceNeg, Int.reduceToNat]) |  refine And.intro ?_ ?_ | intro _))
    all_goals first | omega | skip
end
section
noncomputable def cxSaI : Cx := { P := Tryz.prog, tys := tys, C := [(117, kStOk), (118, k60)], hty := tysOk, hC := COk.cons cStOkI (COk.cons c60 (COk.nil _)) }
theorem cxSaI_t : cxSaI.tys = tys := rfl
theorem cxSaI_c : cxSaI.C = [(117, kStOk), (118, k60)] := rfl
attribute [local go_sem] cxSaI_t cxSaI_c kStOk k60
theorem cStackAtI : Cn Tryz.prog 120 kStackAt := by
  refine Cn.pur Tryz.func120 (by kernel_rfl) rfl fun d x hx => ?_
  obtain ⟨N, k⟩ := x
  simp only at hx ⊢
  have hN := hx.1
  refine Holds.go (c := cxSaI) Tryz.func120 rfl Tryz.results120 Tryz.ntmps120 (by omega) (by simp) rfl ?_
  intro X0 w0
  (repeat' (first | refine WP.seq ?_ | refine WP.block ?_ | ((first | refine WP.region ?_ | refine WP.condW ?_ | refine WP.ret ?_ | refine WP.exit ?_ | refine WP.skip ?_); simp only [go_sem, tyAll, Nat.reduceAdd, Nat.reduceLT, Nat.reduceLeDiff, Nat.reduceEqDiff, Nat.reduceMul, Nat.reduceSub, Nat.reduceGT, reduceIte, Int.reduceNeg, Int.reduceToNat]) |  refine And.intro ?_ ?_ | intro _))
  all_goals first | omega | exact hx.2 _ ‹_› | skip
  · rename_i h
    have he : stackAt N k = [] := if_neg (fun hc => by
      rcases h with h | h
      · rw [hc.1] at h; cases h
      · omega)
    rw [he]; exact ⟨_, _, rfl⟩
  rename_i hok'
  obtain ⟨hok, hk0, hk1⟩ := hok'
  refine WP.prep [] [(18, 5)] rfl ?_
  have hp : stackAt N k = (upF N (k.toNat + 1) k).reverse := if_pos ⟨hok, hk0, by omega⟩
  refine WP.loopP [] [(33, 5)] rfl (fun s : Int × Nat × List Frame => ⟨[(1, .v (.int .i64 s.1)), (2, .ptr 2 0 0 0), (5, .own 5)], [(2, .box 26 [.sl 3 (N.map encNode)]), (5, .sl 46 2 (s.2.2.map encFrame))]⟩)
    (fun s => -1 ≤ s.1 ∧ s.1 < N.length ∧ s.1 < s.2.1 ∧ (upF N s.2.1 s.1).reverse ++ s.2.2 = stackAt N k ∧ s.2.2.length + s.2.1 ≤ N.length) (fun s => (s.1 + 1).toNat) (k, k.toNat + 1, []) ⟨by simp only; omega, by simp only; omega, by simp only; omega, by simp [hp], by simp only [List.length_nil]; omega⟩ ?_ ?_
  · (simp only [go_sem, tyAll, Nat.reduceAdd, Nat.reduceLT, Nat.reduceLeDiff, Nat.reduceEqDiff, Nat.reduceMul, Nat.reduceSub, Nat.reduceGT, reduceIte, Int.reduceNeg, Int.reduceToNat] <;> (first | rfl | exact ⟨rfl, rfl⟩ | exact ⟨rfl, rfl, rfl⟩ | exact ⟨rfl, rfl, rfl, rfl⟩ | exact ⟨rfl, rfl, rfl, rfl, rfl⟩ | exact ⟨⟨rfl, rfl⟩, rfl⟩ | simp))
  rintro ⟨q, f, out⟩ ⟨h0, h1, h2, h3, h4⟩
  simp only at h0 h1 h2 h3 h4 ⊢
  rcases Int.lt_or_le q 0 with hneg | hpos
  · rw [upF_neg N f q hneg] at h3
    have h3 : out = stackAt N k := h3
    (repeat' (first | refine WP.seq ?_ | refine WP.block ?_ | ((first | refine WP.region ?_ | refine WP.condW ?_ | refine WP.ret ?_ | refine WP.exit ?_ | refine WP.skip ?_); simp only [go_sem, tyAll, Nat.reduceAdd, Nat.reduceLT, Nat.reduceLeDiff, Nat.reduceEqDiff, Nat.reduceMul, Nat.reduceSub, Nat.reduceGT, reduceIte, Int.reduceNeg, Int.reduceToNat]) |  refine And.intro ?_ ?_ | intro _))
    all_goals first | omega | skip
    all_goals rw [h3]
  · obtain ⟨q, rfl⟩ := Int.eq_ofNat_of_zero_le hpos
    have hq : q < N.length := by omega
    have h5 := rowAt_map encNode N q hq
    have h6 := stNode_iff.1 (stacksOk_at hok q hq)
    rw [upF_pos N f q hq (by omega)] at h3
    (repeat' (first | refine WP.seq ?_ | refine WP.block ?_ | ((first | refine WP.region ?_ | refine WP.condW ?_ | refine WP.ret ?_ | refine WP.exit ?_ | refine WP.skip ?_); simp only [go_sem, h5, encNode, tyAll, Nat.reduceAdd, Nat.reduceLT, Nat.reduceLeDiff, Nat.reduceEqDiff, Nat.reduceMul, Nat.reduceSub, Nat.reduceGT, reduceIte, Int.reduceNeg, Int.reduceToNat]) |  refine And.intro ?_ ?_ | intro _))
    all_goals first | omega | exact rlFrame ‹_› | skip
    exact ⟨(N[q].parent, f - 1, nodeFr N[q] :: out), ⟨by simp only; omega, by simp only; omega, by simp only; omega, by simp only; rw [← h3]; simp, by simp only [List.length_cons]; omega⟩, by simp only; omega, by (first | rfl | exact ⟨rfl, rfl⟩ | exact ⟨rfl, rfl, rfl⟩ | exact ⟨rfl, rfl, rfl, rfl⟩ | exact ⟨rfl, rfl, rfl, rfl, rfl⟩ | exact ⟨⟨rfl, rfl⟩, rfl⟩ | simp)⟩
end
end Go.Proofs.YtklcphbgaeiegaaGreatDoor

/-
  DERIVED. EntriesOf, of the reference.
-/
namespace Go.Proofs.YtklcphbgaeiegaaGreatDoor
open Go.Vc
set_option linter.unusedSimpArgs false
set_option linter.unusedVariables false
set_option maxHeartbeats 1000000
set_option maxRecDepth 10000
attribute [local go_sem] St.runR St.runW St.stepV offV St.step St.stepU St.stepG mkCond guardB St.prK St.pr St.prLen St.eff St.callE St.callD St.callF St.callL aI aB aS aR aC St.isM St.argL Ctr.pure Ctr.lend Ctr.move Ctr.isL Ctr.wri pur len lentBy St.lentV St.lent1 nthS argsR restOf obsR pairs swapL unObs backL St.resL erL SV.ren1 SV.up SV.up2 Ob.up St.fzL cellIds partIds St.intoRow SV.ownId St.fz SV.fz1 St.prep St.mvL St.mv SV.re1 rnOk St.prEq vals eqCells scEq Value.kd St.prStr St.prCut cutR St.bnd St.prMin St.bld isShift outL retL outJ oR oC St.ev St.get St.put St.new St.kill SV.kill SV.kill1 Ob.kill St.app St.wrt St.rowsOf St.res St.killL lk er argsL SV.strip SV.need SV.share SV.share1 SV.owns SV.owns1 SV.owns2 SV.good SV.good1 SV.rok SV.rok1 SV.rok2 SV.isV SV.isV2 nodupN SV.cells SV.one SV.pur Ob.pb partsIn rowsIn splice cellsAt dstOk scal2 scal1 thenK blockK retK outK outs okC okL okA okT nilC nilL nilA nilT keepC keepL keepA keepT St.runG St.dltK St.least St.clean St.final St.hide offK badS badO SV.refs SV.leaf SV.leaf2 Ob.refs dlOk fpAt Go.Vc.cover tups SV.ofAgg St.out outC subL St.has rng wr Value.oneCell' Option.isSome_some Option.isSome_none List.nil_append Bool.false_eq_true List.map_cons List.map_nil List.all_cons List.all_nil List.length_cons List.length_nil List.drop_zero List.drop_succ_cons List.take_succ_cons List.take_zero List.drop_nil List.take_nil List.getElem?_cons_zero List.getElem?_cons_succ List.getElem?_nil List.cons_append List.nil_append List.append_nil List.append_assoc List.flatMap_cons List.flatMap_nil List.contains_cons List.contains_nil List.set_cons_zero List.set_cons_succ List.getElem?_toArray Option.getD_some Option.getD_none Option.map_some Option.map_none Option.bind_some Option.some.injEq Prod.mk.injEq if_true if_false true_and and_true and_self and_false false_and Bool.and_false Bool.false_and Bool.or_true Bool.true_or Bool.or_false Bool.false_or ne_eq not_true_eq_false not_false_eq_true decide_true decide_false List.mem_cons List.not_mem_nil List.filter_cons List.filter_nil List.any_cons List.any_nil List.isEmpty_nil List.isEmpty_cons Option.getD_none or_false false_or true_or or_true forall_eq_or_imp forall_eq reduceCtorEq exists_eq exists_eq' exists_eq_left' exists_eq_left exists_eq_right exists_eq_right' imp_self implies_true Bool.and_true Bool.true_and Bool.and_self beq_self_eq_true List.replicate_succ List.replicate_zero forall_const false_implies pickB_or pickB_and beqT beqF Int.toNat_natCast List.length_map List.length_replicate ge_iff_le gt_iff_lt decide_eq_true_eq decide_eq_false_iff_not Bool.and_eq_true Bool.or_eq_true Bool.not_eq_true' Bool.not_eq_false' condG List.toList_toArray Bool.or_eq_false_iff Bool.and_eq_false_iff Int.not_lt Int.not_le beq_iff_eq beq_eq_false_iff_ne bne_iff_ne bne_eq_false_iff_eq ne_eq Bool.not_true Bool.not_false exists_and_left
attribute [local irreducible] Go.Vc.WP
attribute [local go_sem] cx0_t cx0_c
open Go.Pl
attribute [local go_sem] isV_Node isV_It isV_Entry decNode_enc decFrame_enc oneFrame_enc stkA oneFrame_ab oneNode_abc decI_enc decS_enc aU prA decEntry_enc St.ado St.adoptB St.adoptS rp isNil St.fzS
theorem ins_at {α : Type} {lt : α → α → Bool} {x : α} : ∀ {L : List α} {n : Nat}, n ≤ L.length → (∀ j (hj : j < L.length), j < n → lt L[j] x = true) → (∀ hn : n < L.length, lt L[n] x = false) → ins lt x L = L.take n ++ x :: L.drop n
  | [], n, h1, _, _ => by
    have : n = 0 := by simpa using h1
    subst this; rfl
  | y :: L, 0, _, _, h3 => by
    have := h3 (by simp)
    simp only [List.getElem_cons_zero] at this
    simp [ins, List.takeWhile, List.dropWhile, this]
  | y :: L, n + 1, h1, h2, h3 => by
    have hy := h2 0 (by simp) (by omega)
    simp only [List.getElem_cons_zero] at hy
    have ih := ins_at (lt := lt) (x := x) (L := L) (n := n) (by simpa using h1) (fun j hj hjn => h2 (j + 1) (Nat.succ_lt_succ hj) (by omega)) (fun hn => h3 (Nat.succ_lt_succ hn))
    unfold ins at ih ⊢
    simp only [List.takeWhile_cons, List.dropWhile_cons, hy, if_true, List.cons_append, List.take_succ_cons, List.drop_succ_cons, ih]
def wfQ (x : List Node × List Int) : Prop := (x.1.length ≤ 1099511627776 ∧ ∀ n ∈ x.1, n.name.size ≤ 4194304) ∧ x.2.length ≤ 1099511627776
def kEnt : Ctr := pur (fun args => prA args 0) (fun x => [.agg [.sl 3 (x.1.map encNode), .sl 1 (x.2.map encI)]]) wfQ (fun d _ => .own d) (fun d x => [(d, .sl 54 2 ((entriesOf x.1 x.2).map encEntry))])
theorem wfFr_at (N : List Node) (k : Int) : ∀ f ∈ stackAt N k, f.name.size ≤ 1099511627776 := fun f hf => by
  have h2 := (nameOk_letters (frOk_iff.1 (List.all_eq_true.1 (stackAt_ok N k) f hf)).1).2.2
  omega
/-- the entries found in the first k nodes, sorted -/
def entsK (N : List Node) (C : List Int) (k : Nat) : List Entry := insAll ltE (rawE N C k)
theorem entsK_len (N : List Node) (C : List Int) (k : Nat) : (entsK N C k).length ≤ k := by unfold entsK; rw [insAll_len]; exact rawE_len N C k
theorem entsK_zero (N : List Node) (C : List Int) : entsK N C 0 = [] := rfl
theorem entsK_skip {N : List Node} {C : List Int} {k : Nat} (hk : k < C.length) (h : C[k] = 0) : entsK N C (k + 1) = entsK N C k := by
  unfold entsK
  rw [rawE_succ, show entAt N C k = none from if_pos (by rw [List.getD_eq_getElem?_getD, List.getElem?_eq_getElem hk]; exact h)]
  simp
theorem entsK_new {N : List Node} {C : List Int} {k : Nat} (hk : k < C.length) (h : ¬ C[k] = 0) : entsK N C (k + 1) = ins ltE ⟨fmtF (stackAt N k), C[k]⟩ (entsK N C k) := by
  unfold entsK
  have e : C.getD k 0 = C[k] := by rw [List.getD_eq_getElem?_getD, List.getElem?_eq_getElem hk]; rfl
  rw [rawE_succ, show entAt N C k = some ⟨fmtF (stackAt N k), C[k]⟩ by unfold entAt; rw [e, if_neg h]]
  exact insAll_snoc _ _
section
noncomputable def cxEoS : Cx := { P := Tryz.prog, tys := tys, C := [(63, kPrOk), (89, kStackAt), (88, kFmtF)], hty := tysOk, hC := COk.cons cPrOkS (COk.cons cStackAtS (COk.cons cFmtFS (COk.nil _))) }
theorem cxEoS_t : cxEoS.tys = tys := rfl
theorem cxEoS_c : cxEoS.C = [(63, kPrOk), (89, kStackAt), (88, kFmtF)] := rfl
attribute [local go_sem] cxEoS_t cxEoS_c kPrOk kStackAt kFmtF
theorem cEntS : Cn Tryz.prog 35 kEnt := by
  refine Cn.pur Tryz.func35 (by kernel_rfl) rfl fun d x hx => ?_
  obtain ⟨N, C⟩ := x
  obtain ⟨⟨hN, hs⟩, hC⟩ := hx
  simp only at hN hs hC ⊢
  refine Holds.go (c := cxEoS) Tryz.func35 rfl Tryz.results35 Tryz.ntmps35 (by omega) (by simp) rfl ?_
  intro X0 w0
  (repeat' (first | refine WP.seq ?_ | refine WP.block ?_ | ((first | refine WP.region ?_ | refine WP.condW ?_ | refine WP.ret ?_ | refine WP.exit ?_ | refine WP.skip ?_); simp only [go_sem, tyAll, Nat.reduceAdd, Nat.reduceLT, Nat.reduceLeDiff, Nat.reduceEqDiff, Nat.reduceMul, Nat.reduceSub, Nat.reduceGT, reduceIte, Int.reduceNeg, Int.reduceToNat]) | (refine WP.flowW 12 [⟨[1], [], [], [6, 30], [], []⟩, ⟨[27], [0], [], [6, 30], [], []⟩, ⟨[5], [], [], [6, 30], [], []⟩, ⟨[28, 29], [0, 1, 2], [], [6], [], [30]⟩, ⟨[30], [0, 1, 2, 3], [], [6], [], []⟩, ⟨[1], [], [], [6, 30], [], []⟩, ⟨[32], [5], [], [6, 30], [], []⟩, ⟨[5], [], [], [6, 30], [], []⟩, ⟨[33, 34], [5, 6, 7], [], [6, 30], [], []⟩, ⟨[35], [5, 6, 7, 8], [], [6, 30], [], []⟩, ⟨[31, 36], [0, 1, 2, 3, 4, 5, 6, 7, 8, 9], [], [6], [], []⟩, ⟨[], [], [], [30], [], [6]⟩, ⟨[], [0, 1, 2, 3, 4, 5, 6, 7, 8, 9, 10, 11], [], [], [], []⟩] [6, 27, 28, 29, 30, 31, 32, 33, 34, 35, 36, 37] [6, 30] [] (by decide +kernel) (by kernel_rfl) (by kernel_rfl) (by kernel_rfl) ?_; simp only [go_sem, tyAll, Nat.reduceAdd, Nat.reduceLT, Nat.reduceLeDiff, Nat.reduceEqDiff, Nat.reduceMul, Nat.reduceSub, Nat.reduceGT, reduceIte, Int.reduceNeg, Int.reduceToNat]) | (refine WP.flowZ [3] 11 [⟨[], [], [], [58, 60, 61], [], [54]⟩, ⟨[3], [], [], [54, 58, 60, 61], [], []⟩, ⟨[7], [], [], [54, 58, 60, 61], [], []⟩, ⟨[55, 56], [1, 2], [], [54, 58, 60, 61], [], []⟩, ⟨[54, 57], [0, 1, 2, 3], [], [60, 61], [54], [58]⟩, ⟨[6], [], [54], [54, 58, 60, 61], [], []⟩, ⟨[59], [5], [54], [54, 58, 61], [], [60]⟩, ⟨[58, 60], [0, 1, 2, 3, 4, 5, 6], [54], [], [58], [61]⟩, ⟨[3], [], [54, 58], [54, 58, 60, 61], [], []⟩, ⟨[7], [], [54, 58], [54, 58, 60, 61], [], []⟩, ⟨[62, 63], [8, 9], [54, 58], [54, 58, 60, 61], [], []⟩, ⟨[], [0, 1, 2, 3, 4, 5, 6, 7, 8, 9, 10], [], [], [], []⟩, ⟨[], [0, 1, 2, 3, 4, 5, 6, 7, 8, 9, 10, 11], [], [], [], []⟩] [54, 55, 56, 57, 58, 59, 60, 61, 62, 63, 64] [54, 58, 60, 61] [54, 58] (by decide +kernel) (by kernel_rfl) (by kernel_rfl) (by kernel_rfl) ?_; simp only [go_sem, tyAll, Nat.reduceAdd, Nat.reduceLT, Nat.reduceLeDiff, Nat.reduceEqDiff, Nat.reduceMul, Nat.reduceSub, Nat.reduceGT, reduceIte, Int.reduceNeg, Int.reduceToNat]) | (refine WP.flowW 11 [⟨[], [], [], [58, 60, 61], [], [54]⟩, ⟨[3], [], [], [54, 58, 60, 61], [], []⟩, ⟨[7], [], [], [54, 58, 60, 61], [], []⟩, ⟨[55, 56], [1, 2], [], [54, 58, 60, 61], [], []⟩, ⟨[54, 57], [0, 1, 2, 3], [], [60, 61], [54], [58]⟩, ⟨[6], [], [54], [54, 58, 60, 61], [], []⟩, ⟨[59], [5], [54], [54, 58, 61], [], [60]⟩, ⟨[58, 60], [0, 1, 2, 3, 4, 5, 6], [54], [], [58], [61]⟩, ⟨[3], [], [54, 58], [54, 58, 60, 61], [], []⟩, ⟨[7], [], [54, 58], [54, 58, 60, 61], [], []⟩, ⟨[62, 63], [8, 9], [54, 58], [54, 58, 60, 61], [], []⟩, ⟨[], [0, 1, 2, 3, 4, 5, 6, 7, 8, 9, 10], [], [], [], []⟩, ⟨[], [0, 1, 2, 3, 4, 5, 6, 7, 8, 9, 10, 11], [], [], [], []⟩] [54, 55, 56, 57, 58, 59, 60, 61, 62, 63, 64] [54, 58, 60, 61] [54, 58] (by decide +kernel) (by kernel_rfl) (by kernel_rfl) (by kernel_rfl) ?_; simp only [go_sem, tyAll, Nat.reduceAdd, Nat.reduceLT, Nat.reduceLeDiff, Nat.reduceEqDiff, Nat.reduceMul, Nat.reduceSub, Nat.reduceGT, reduceIte, Int.reduceNeg, Int.reduceToNat]) | (refine WP.drawW 14 (by decide +kernel) (by kernel_rfl) ?_; simp only [go_sem, tyAll, Nat.reduceAdd, Nat.reduceLT, Nat.reduceLeDiff, Nat.reduceEqDiff, Nat.reduceMul, Nat.reduceSub, Nat.reduceGT, reduceIte, Int.reduceNeg, Int.reduceToNat]) |  refine And.intro ?_ ?_ | intro _))
  all_goals first | omega | (simp only; omega) | exact Nat.le_trans (hs _ ‹_›) (by omega) | skip
  refine WP.prep [] [(8, 61)] rfl ?_
  refine WP.loop (fun k : Nat => ⟨[(1, .ptr 1 0 0 0), (3, .own 61), (4, .v (.bool (profileOk N C))), (5, .v (.int .i64 k))], [(1, .box 29 [.sl 3 (N.map encNode), .sl 1 (C.map encI)]), (61, .sl 54 2 ((entsK N C k).map encEntry))]⟩)
    (fun k => k ≤ C.length ∧ (profileOk N C = false → k = 0)) (fun k => C.length - k) 0 (by simp) ?_ ?_
  · (simp only [go_sem, tyAll, Nat.reduceAdd, Nat.reduceLT, Nat.reduceLeDiff, Nat.reduceEqDiff, Nat.reduceMul, Nat.reduceSub, Nat.reduceGT, reduceIte, Int.reduceNeg, Int.reduceToNat] <;> (first | rfl | exact ⟨rfl, rfl⟩ | exact ⟨rfl, rfl, rfl⟩ | exact ⟨rfl, rfl, rfl, rfl⟩ | exact ⟨rfl, rfl, rfl, rfl, rfl⟩ | exact ⟨⟨rfl, rfl⟩, rfl⟩ | simp))
  intro k ⟨hk, hk0⟩
  have hlen := entsK_len N C k
  cases hp : profileOk N C with
  | false =>
    have h0 := hk0 hp
    subst h0
    have he : entriesOf N C = [] := if_neg (by rw [hp]; simp)
    (repeat' (first | refine WP.seq ?_ | refine WP.block ?_ | ((first | refine WP.region ?_ | refine WP.condW ?_ | refine WP.ret ?_ | refine WP.exit ?_ | refine WP.skip ?_); simp only [go_sem, he, entsK_zero, tyAll, Nat.reduceAdd, Nat.reduceLT, Nat.reduceLeDiff, Nat.reduceEqDiff, Nat.reduceMul, Nat.reduceSub, Nat.reduceGT, reduceIte, Int.reduceNeg, Int.reduceToNat]) | (refine WP.flowW 12 [⟨[1], [], [], [6, 30], [], []⟩, ⟨[27], [0], [], [6, 30], [], []⟩, ⟨[5], [], [], [6, 30], [], []⟩, ⟨[28, 29], [0, 1, 2], [], [6], [], [30]⟩, ⟨[30], [0, 1, 2, 3], [], [6], [], []⟩, ⟨[1], [], [], [6, 30], [], []⟩, ⟨[32], [5], [], [6, 30], [], []⟩, ⟨[5], [], [], [6, 30], [], []⟩, ⟨[33, 34], [5, 6, 7], [], [6, 30], [], []⟩, ⟨[35], [5, 6, 7, 8], [], [6, 30], [], []⟩, ⟨[31, 36], [0, 1, 2, 3, 4, 5, 6, 7, 8, 9], [], [6], [], []⟩, ⟨[], [], [], [30], [], [6]⟩, ⟨[], [0, 1, 2, 3, 4, 5, 6, 7, 8, 9, 10, 11], [], [], [], []⟩] [6, 27, 28, 29, 30, 31, 32, 33, 34, 35, 36, 37] [6, 30] [] (by decide +kernel) (by kernel_rfl) (by kernel_rfl) (by kernel_rfl) ?_; simp only [go_sem, he, entsK_zero, tyAll, Nat.reduceAdd, Nat.reduceLT, Nat.reduceLeDiff, Nat.reduceEqDiff, Nat.reduceMul, Nat.reduceSub, Nat.reduceGT, reduceIte, Int.reduceNeg, Int.reduceToNat]) | (refine WP.flowZ [3] 11 [⟨[], [], [], [58, 60, 61], [], [54]⟩, ⟨[3], [], [], [54, 58, 60, 61], [], []⟩, ⟨[7], [], [], [54, 58, 60, 61], [], []⟩, ⟨[55, 56], [1, 2], [], [54, 58, 60, 61], [], []⟩, ⟨[54, 57], [0, 1, 2, 3], [], [60, 61], [54], [58]⟩, ⟨[6], [], [54], [54, 58, 60, 61], [], []⟩, ⟨[59], [5], [54], [54, 58, 61], [], [60]⟩, ⟨[58, 60], [0, 1, 2, 3, 4, 5, 6], [54], [], [58], [61]⟩, ⟨[3], [], [54, 58], [54, 58, 60, 61], [], []⟩, ⟨[7], [], [54, 58], [54, 58, 60, 61], [], []⟩, ⟨[62, 63], [8, 9], [54, 58], [54, 58, 60, 61], [], []⟩, ⟨[], [0, 1, 2, 3, 4, 5, 6, 7, 8, 9, 10], [], [], [], []⟩, ⟨[], [0, 1, 2, 3, 4, 5, 6, 7, 8, 9, 10, 11], [], [], [], []⟩] [54, 55, 56, 57, 58, 59, 60, 61, 62, 63, 64] [54, 58, 60, 61] [54, 58] (by decide +kernel) (by kernel_rfl) (by kernel_rfl) (by kernel_rfl) ?_; simp only [go_sem, he, entsK_zero, tyAll, Nat.reduceAdd, Nat.reduceLT, Nat.reduceLeDiff, Nat.reduceEqDiff, Nat.reduceMul, Nat.reduceSub, Nat.reduceGT, reduceIte, Int.reduceNeg, Int.reduceToNat]) | (refine WP.flowW 11 [⟨[], [], [], [58, 60, 61], [], [54]⟩, ⟨[3], [], [], [54, 58, 60, 61], [], []⟩, ⟨[7], [], [], [54, 58, 60, 61], [], []⟩, ⟨[55, 56], [1, 2], [], [54, 58, 60, 61], [], []⟩, ⟨[54, 57], [0, 1, 2, 3], [], [60, 61], [54], [58]⟩, ⟨[6], [], [54], [54, 58, 60, 61], [], []⟩, ⟨[59], [5], [54], [54, 58, 61], [], [60]⟩, ⟨[58, 60], [0, 1, 2, 3, 4, 5, 6], [54], [], [58], [61]⟩, ⟨[3], [], [54, 58], [54, 58, 60, 61], [], []⟩, ⟨[7], [], [54, 58], [54, 58, 60, 61], [], []⟩, ⟨[62, 63], [8, 9], [54, 58], [54, 58, 60, 61], [], []⟩, ⟨[], [0, 1, 2, 3, 4, 5, 6, 7, 8, 9, 10], [], [], [], []⟩, ⟨[], [0, 1, 2, 3, 4, 5, 6, 7, 8, 9, 10, 11], [], [], [], []⟩] [54, 55, 56, 57, 58, 59, 60, 61, 62, 63, 64] [54, 58, 60, 61] [54, 58] (by decide +kernel) (by kernel_rfl) (by kernel_rfl) (by kernel_rfl) ?_; simp only [go_sem, he, entsK_zero, tyAll, Nat.reduceAdd, Nat.reduceLT, Nat.reduceLeDiff, Nat.reduceEqDiff, Nat.reduceMul, Nat.reduceSub, Nat.reduceGT, reduceIte, Int.reduceNeg, Int.reduceToNat]) | (refine WP.drawW 14 (by decide +kernel) (by kernel_rfl) ?_; simp only [go_sem, he, entsK_zero, tyAll, Nat.reduceAdd, Nat.reduceLT, Nat.reduceLeDiff, Nat.reduceEqDiff, Nat.reduceMul, Nat.reduceSub, Nat.reduceGT, reduceIte, Int.reduceNeg, Int.reduceToNat]) |  refine And.intro ?_ ?_ | intro _))
    all_goals first | omega | skip
  | true =>
    by_cases hlt : k < C.length
    · have hli : (k : Int) < C.length := by omega
      have h1 := rowAt_map encI C k hlt
      by_cases hz : C[k] = 0
      · have hsk := entsK_skip (N := N) hlt hz
        (repeat' (first | refine WP.seq ?_ | refine WP.block ?_ | ((first | refine WP.region ?_ | refine WP.condW ?_ | refine WP.ret ?_ | refine WP.exit ?_ | refine WP.skip ?_); simp only [go_sem, hli, h1, encI, hz, tyAll, Nat.reduceAdd, Nat.reduceLT, Nat.reduceLeDiff, Nat.reduceEqDiff, Nat.reduceMul, Nat.reduceSub, Nat.reduceGT, reduceIte, Int.reduceNeg, Int.reduceToNat]) | (refine WP.flowW 12 [⟨[1], [], [], [6, 30], [], []⟩, ⟨[27], [0], [], [6, 30], [], []⟩, ⟨[5], [], [], [6, 30], [], []⟩, ⟨[28, 29], [0, 1, 2], [], [6], [], [30]⟩, ⟨[30], [0, 1, 2, 3], [], [6], [], []⟩, ⟨[1], [], [], [6, 30], [], []⟩, ⟨[32], [5], [], [6, 30], [], []⟩, ⟨[5], [], [], [6, 30], [], []⟩, ⟨[33, 34], [5, 6, 7], [], [6, 30], [], []⟩, ⟨[35], [5, 6, 7, 8], [], [6, 30], [], []⟩, ⟨[31, 36], [0, 1, 2, 3, 4, 5, 6, 7, 8, 9], [], [6], [], []⟩, ⟨[], [], [], [30], [], [6]⟩, ⟨[], [0, 1, 2, 3, 4, 5, 6, 7, 8, 9, 10, 11], [], [], [], []⟩] [6, 27, 28, 29, 30, 31, 32, 33, 34, 35, 36, 37] [6, 30] [] (by decide +kernel) (by kernel_rfl) (by kernel_rfl) (by kernel_rfl) ?_; simp only [go_sem, hli, h1, encI, hz, tyAll, Nat.reduceAdd, Nat.reduceLT, Nat.reduceLeDiff, Nat.reduceEqDiff, Nat.reduceMul, Nat.reduceSub, Nat.reduceGT, reduceIte, Int.reduceNeg, Int.reduceToNat]) | (refine WP.flowZ [3] 11 [⟨[], [], [], [58, 60, 61], [], [54]⟩, ⟨[3], [], [], [54, 58, 60, 61], [], []⟩, ⟨[7], [], [], [54, 58, 60, 61], [], []⟩, ⟨[55, 56], [1, 2], [], [54, 58, 60, 61], [], []⟩, ⟨[54, 57], [0, 1, 2, 3], [], [60, 61], [54], [58]⟩, ⟨[6], [], [54], [54, 58, 60, 61], [], []⟩, ⟨[59], [5], [54], [54, 58, 61], [], [60]⟩, ⟨[58, 60], [0, 1, 2, 3, 4, 5, 6], [54], [], [58], [61]⟩, ⟨[3], [], [54, 58], [54, 58, 60, 61], [], []⟩, ⟨[7], [], [54, 58], [54, 58, 60, 61], [], []⟩, ⟨[62, 63], [8, 9], [54, 58], [54, 58, 60, 61], [], []⟩, ⟨[], [0, 1, 2, 3, 4, 5, 6, 7, 8, 9, 10], [], [], [], []⟩, ⟨[], [0, 1, 2, 3, 4, 5, 6, 7, 8, 9, 10, 11], [], [], [], []⟩] [54, 55, 56, 57, 58, 59, 60, 61, 62, 63, 64] [54, 58, 60, 61] [54, 58] (by decide +kernel) (by kernel_rfl) (by kernel_rfl) (by kernel_rfl) ?_; simp only [go_sem, hli, h1, encI, hz, tyAll, Nat.reduceAdd, Nat.reduceLT, Nat.reduceLeDiff, Nat.reduceEqDiff, Nat.reduceMul, Nat.reduceSub, Nat.reduceGT, reduceIte, Int.reduceNeg, Int.reduceToNat]) | (refine WP.flowW 11 [⟨[], [], [], [58, 60, 61], [], [54]⟩, ⟨[3], [], [], [54, 58, 60, 61], [], []⟩, ⟨[7], [], [], [54, 58, 60, 61], [], []⟩, ⟨[55, 56], [1, 2], [], [54, 58, 60, 61], [], []⟩, ⟨[54, 57], [0, 1, 2, 3], [], [60, 61], [54], [58]⟩, ⟨[6], [], [54], [54, 58, 60, 61], [], []⟩, ⟨[59], [5], [54], [54, 58, 61], [], [60]⟩, ⟨[58, 60], [0, 1, 2, 3, 4, 5, 6], [54], [], [58], [61]⟩, ⟨[3], [], [54, 58], [54, 58, 60, 61], [], []⟩, ⟨[7], [], [54, 58], [54, 58, 60, 61], [], []⟩, ⟨[62, 63], [8, 9], [54, 58], [54, 58, 60, 61], [], []⟩, ⟨[], [0, 1, 2, 3, 4, 5, 6, 7, 8, 9, 10], [], [], [], []⟩, ⟨[], [0, 1, 2, 3, 4, 5, 6, 7, 8, 9, 10, 11], [], [], [], []⟩] [54, 55, 56, 57, 58, 59, 60, 61, 62, 63, 64] [54, 58, 60, 61] [54, 58] (by decide +kernel) (by kernel_rfl) (by kernel_rfl) (by kernel_rfl) ?_; simp only [go_sem, hli, h1, encI, hz, tyAll, Nat.reduceAdd, Nat.reduceLT, Nat.reduceLeDiff, Nat.reduceEqDiff, Nat.reduceMul, Nat.reduceSub, Nat.reduceGT, reduceIte, Int.reduceNeg, Int.reduceToNat]) | (refine WP.drawW 14 (by decide +kernel) (by kernel_rfl) ?_; simp only [go_sem, hli, h1, encI, hz, tyAll, Nat.reduceAdd, Nat.reduceLT, Nat.reduceLeDiff, Nat.reduceEqDiff, Nat.reduceMul, Nat.reduceSub, Nat.reduceGT, reduceIte, Int.reduceNeg, Int.reduceToNat]) |  refine And.intro ?_ ?_ | intro _))
        all_goals first | omega | skip
        exact ⟨k + 1, by omega, by omega, rfl, by rw [hsk]⟩
      · have hnw := entsK_new (N := N) hlt hz
        have hfr := wfFr_at N k
        have hsl := stackAt_len N k
        (repeat' (first | refine WP.seq ?_ | refine WP.block ?_ | ((first | refine WP.region ?_ | refine WP.condW ?_ | refine WP.ret ?_ | refine WP.exit ?_ | refine WP.skip ?_); simp only [go_sem, hli, h1, encI, hz, tyAll, Nat.reduceAdd, Nat.reduceLT, Nat.reduceLeDiff, Nat.reduceEqDiff, Nat.reduceMul, Nat.reduceSub, Nat.reduceGT, reduceIte, Int.reduceNeg, Int.reduceToNat]) | (refine WP.flowW 12 [⟨[1], [], [], [6, 30], [], []⟩, ⟨[27], [0], [], [6, 30], [], []⟩, ⟨[5], [], [], [6, 30], [], []⟩, ⟨[28, 29], [0, 1, 2], [], [6], [], [30]⟩, ⟨[30], [0, 1, 2, 3], [], [6], [], []⟩, ⟨[1], [], [], [6, 30], [], []⟩, ⟨[32], [5], [], [6, 30], [], []⟩, ⟨[5], [], [], [6, 30], [], []⟩, ⟨[33, 34], [5, 6, 7], [], [6, 30], [], []⟩, ⟨[35], [5, 6, 7, 8], [], [6, 30], [], []⟩, ⟨[31, 36], [0, 1, 2, 3, 4, 5, 6, 7, 8, 9], [], [6], [], []⟩, ⟨[], [], [], [30], [], [6]⟩, ⟨[], [0, 1, 2, 3, 4, 5, 6, 7, 8, 9, 10, 11], [], [], [], []⟩] [6, 27, 28, 29, 30, 31, 32, 33, 34, 35, 36, 37] [6, 30] [] (by decide +kernel) (by kernel_rfl) (by kernel_rfl) (by kernel_rfl) ?_; simp only [go_sem, hli, h1, encI, hz, tyAll, Nat.reduceAdd, Nat.reduceLT, Nat.reduceLeDiff, Nat.reduceEqDiff, Nat.reduceMul, Nat.reduceSub, Nat.reduceGT, reduceIte, Int.reduceNeg, Int.reduceToNat]) | (refine WP.flowZ [3] 11 [⟨[], [], [], [58, 60, 61], [], [54]⟩, ⟨[3], [], [], [54, 58, 60, 61], [], []⟩, ⟨[7], [], [], [54, 58, 60, 61], [], []⟩, ⟨[55, 56], [1, 2], [], [54, 58, 60, 61], [], []⟩, ⟨[54, 57], [0, 1, 2, 3], [], [60, 61], [54], [58]⟩, ⟨[6], [], [54], [54, 58, 60, 61], [], []⟩, ⟨[59], [5], [54], [54, 58, 61], [], [60]⟩, ⟨[58, 60], [0, 1, 2, 3, 4, 5, 6], [54], [], [58], [61]⟩, ⟨[3], [], [54, 58], [54, 58, 60, 61], [], []⟩, ⟨[7], [], [54, 58], [54, 58, 60, 61], [], []⟩, ⟨[62, 63], [8, 9], [54, 58], [54, 58, 60, 61], [], []⟩, ⟨[], [0, 1, 2, 3, 4, 5, 6, 7, 8, 9, 10], [], [], [], []⟩, ⟨[], [0, 1, 2, 3, 4, 5, 6, 7, 8, 9, 10, 11], [], [], [], []⟩] [54, 55, 56, 57, 58, 59, 60, 61, 62, 63, 64] [54, 58, 60, 61] [54, 58] (by decide +kernel) (by kernel_rfl) (by kernel_rfl) (by kernel_rfl) ?_; simp only [go_sem, hli, h1, encI, hz, tyAll, Nat.reduceAdd, Nat.reduceLT, Nat.reduceLeDiff, Nat.reduceEqDiff, Nat.reduceMul, Nat.reduceSub, Nat.reduceGT, reduceIte, Int.reduceNeg, Int.reduceToNat]) | (refine WP.flowW 11 [⟨[], [], [], [58, 60, 61], [], [54]⟩, ⟨[3], [], [], [54, 58, 60, 61], [], []⟩, ⟨[7], [], [], [54, 58, 60, 61], [], []⟩, ⟨[55, 56], [1, 2], [], [54, 58, 60, 61], [], []⟩, ⟨[54, 57], [0, 1, 2, 3], [], [60, 61], [54], [58]⟩, ⟨[6], [], [54], [54, 58, 60, 61], [], []⟩, ⟨[59], [5], [54], [54, 58, 61], [], [60]⟩, ⟨[58, 60], [0, 1, 2, 3, 4, 5, 6], [54], [], [58], [61]⟩, ⟨[3], [], [54, 58], [54, 58, 60, 61], [], []⟩, ⟨[7], [], [54, 58], [54, 58, 60, 61], [], []⟩, ⟨[62, 63], [8, 9], [54, 58], [54, 58, 60, 61], [], []⟩, ⟨[], [0, 1, 2, 3, 4, 5, 6, 7, 8, 9, 10], [], [], [], []⟩, ⟨[], [0, 1, 2, 3, 4, 5, 6, 7, 8, 9, 10, 11], [], [], [], []⟩] [54, 55, 56, 57, 58, 59, 60, 61, 62, 63, 64] [54, 58, 60, 61] [54, 58] (by decide +kernel) (by kernel_rfl) (by kernel_rfl) (by kernel_rfl) ?_; simp only [go_sem, hli, h1, encI, hz, tyAll, Nat.reduceAdd, Nat.reduceLT, Nat.reduceLeDiff, Nat.reduceEqDiff, Nat.reduceMul, Nat.reduceSub, Nat.reduceGT, reduceIte, Int.reduceNeg, Int.reduceToNat]) | (refine WP.drawW 14 (by decide +kernel) (by kernel_rfl) ?_; simp only [go_sem, hli, h1, encI, hz, tyAll, Nat.reduceAdd, Nat.reduceLT, Nat.reduceLeDiff, Nat.reduceEqDiff, Nat.reduceMul, Nat.reduceSub, Nat.reduceGT, reduceIte, Int.reduceNeg, Int.reduceToNat]) |  refine And.intro ?_ ?_ | intro _))
        all_goals first | omega | (simp only; omega) | exact Nat.le_trans (hs _ ‹_›) (by omega) | exact hfr _ ‹_› | exact ⟨_, _, _, rfl⟩ | skip
        refine WP.loop (fun q : Nat => ⟨[(1, .ptr 1 0 0 0), (3, .own 61), (4, .v (.bool true)), (5, .v (.int .i64 k)), (6, .ptr 6 0 0 0), (7, .v (.int .i64 q))],
          [(1, .box 29 [.sl 3 (N.map encNode), .sl 1 (C.map encI)]), (6, .box 54 [.v (.string (fmtF (stackAt N k))), .v (.int .i64 C[k])]), (61, .sl 54 2 ((entsK N C k).map encEntry))]⟩)
          (fun q => q ≤ (entsK N C k).length ∧ ∀ j (hj : j < (entsK N C k).length), j < q → ltE (entsK N C k)[j] ⟨fmtF (stackAt N k), C[k]⟩ = true) (fun q => (entsK N C k).length - q) 0 (by simp) ?_ ?_
        · (simp only [go_sem, tyAll, Nat.reduceAdd, Nat.reduceLT, Nat.reduceLeDiff, Nat.reduceEqDiff, Nat.reduceMul, Nat.reduceSub, Nat.reduceGT, reduceIte, Int.reduceNeg, Int.reduceToNat] <;> (first | rfl | exact ⟨rfl, rfl⟩ | exact ⟨rfl, rfl, rfl⟩ | exact ⟨rfl, rfl, rfl, rfl⟩ | exact ⟨rfl, rfl, rfl, rfl, rfl⟩ | exact ⟨⟨rfl, rfl⟩, rfl⟩ | simp))
        intro q ⟨hq, hf⟩
        by_cases hql : q < (entsK N C k).length
        · have hqi : (q : Int) < (entsK N C k).length := by omega
          have h2 := rowAt_map encEntry (entsK N C k) q hql
          cases hl : ltS (entsK N C k)[q].stack (fmtF (stackAt N k)) with
          | true =>
            (repeat' (first | refine WP.seq ?_ | refine WP.block ?_ | ((first | refine WP.region ?_ | refine WP.condW ?_ | refine WP.ret ?_ | refine WP.exit ?_ | refine WP.skip ?_); simp only [go_sem, hqi, h2, encEntry, ltS_def, hl, tyAll, Nat.reduceAdd, Nat.reduceLT, Nat.reduceLeDiff, Nat.reduceEqDiff, Nat.reduceMul, Nat.reduceSub, Nat.reduceGT, reduceIte, Int.reduceNeg, Int.reduceToNat]) | (refine WP.flowW 12 [⟨[1], [], [], [6, 30], [], []⟩, ⟨[27], [0], [], [6, 30], [], []⟩, ⟨[5], [], [], [6, 30], [], []⟩, ⟨[28, 29], [0, 1, 2], [], [6], [], [30]⟩, ⟨[30], [0, 1, 2, 3], [], [6], [], []⟩, ⟨[1], [], [], [6, 30], [], []⟩, ⟨[32], [5], [], [6, 30], [], []⟩, ⟨[5], [], [], [6, 30], [], []⟩, ⟨[33, 34], [5, 6, 7], [], [6, 30], [], []⟩, ⟨[35], [5, 6, 7, 8], [], [6, 30], [], []⟩, ⟨[31, 36], [0, 1, 2, 3, 4, 5, 6, 7, 8, 9], [], [6], [], []⟩, ⟨[], [], [], [30], [], [6]⟩, ⟨[], [0, 1, 2, 3, 4, 5, 6, 7, 8, 9, 10, 11], [], [], [], []⟩] [6, 27, 28, 29, 30, 31, 32, 33, 34, 35, 36, 37] [6, 30] [] (by decide +kernel) (by kernel_rfl) (by kernel_rfl) (by kernel_rfl) ?_; simp only [go_sem, hqi, h2, encEntry, ltS_def, hl, tyAll, Nat.reduceAdd, Nat.reduceLT, Nat.reduceLeDiff, Nat.reduceEqDiff, Nat.reduceMul, Nat.reduceSub, Nat.reduceGT, reduceIte, Int.reduceNeg, Int.reduceToNat]) | (refine WP.flowZ [3] 11 [⟨[], [], [], [58, 60, 61], [], [54]⟩, ⟨[3], [], [], [54, 58, 60, 61], [], []⟩, ⟨[7], [], [], [54, 58, 60, 61], [], []⟩, ⟨[55, 56], [1, 2], [], [54, 58, 60, 61], [], []⟩, ⟨[54, 57], [0, 1, 2, 3], [], [60, 61], [54], [58]⟩, ⟨[6], [], [54], [54, 58, 60, 61], [], []⟩, ⟨[59], [5], [54], [54, 58, 61], [], [60]⟩, ⟨[58, 60], [0, 1, 2, 3, 4, 5, 6], [54], [], [58], [61]⟩, ⟨[3], [], [54, 58], [54, 58, 60, 61], [], []⟩, ⟨[7], [], [54, 58], [54, 58, 60, 61], [], []⟩, ⟨[62, 63], [8, 9], [54, 58], [54, 58, 60, 61], [], []⟩, ⟨[], [0, 1, 2, 3, 4, 5, 6, 7, 8, 9, 10], [], [], [], []⟩, ⟨[], [0, 1, 2, 3, 4, 5, 6, 7, 8, 9, 10, 11], [], [], [], []⟩] [54, 55, 56, 57, 58, 59, 60, 61, 62, 63, 64] [54, 58, 60, 61] [54, 58] (by decide +kernel) (by kernel_rfl) (by kernel_rfl) (by kernel_rfl) ?_; simp only [go_sem, hqi, h2, encEntry, ltS_def, hl, tyAll, Nat.reduceAdd, Nat.reduceLT, Nat.reduceLeDiff, Nat.reduceEqDiff, Nat.reduceMul, Nat.reduceSub, Nat.reduceGT, reduceIte, Int.reduceNeg, Int.reduceToNat]) | (refine WP.flowW 11 [⟨[], [], [], [58, 60, 61], [], [54]⟩, ⟨[3], [], [], [54, 58, 60, 61], [], []⟩, ⟨[7], [], [], [54, 58, 60, 61], [], []⟩, ⟨[55, 56], [1, 2], [], [54, 58, 60, 61], [], []⟩, ⟨[54, 57], [0, 1, 2, 3], [], [60, 61], [54], [58]⟩, ⟨[6], [], [54], [54, 58, 60, 61], [], []⟩, ⟨[59], [5], [54], [54, 58, 61], [], [60]⟩, ⟨[58, 60], [0, 1, 2, 3, 4, 5, 6], [54], [], [58], [61]⟩, ⟨[3], [], [54, 58], [54, 58, 60, 61], [], []⟩, ⟨[7], [], [54, 58], [54, 58, 60, 61], [], []⟩, ⟨[62, 63], [8, 9], [54, 58], [54, 58, 60, 61], [], []⟩, ⟨[], [0, 1, 2, 3, 4, 5, 6, 7, 8, 9, 10], [], [], [], []⟩, ⟨[], [0, 1, 2, 3, 4, 5, 6, 7, 8, 9, 10, 11], [], [], [], []⟩] [54, 55, 56, 57, 58, 59, 60, 61, 62, 63, 64] [54, 58, 60, 61] [54, 58] (by decide +kernel) (by kernel_rfl) (by kernel_rfl) (by kernel_rfl) ?_; simp only [go_sem, hqi, h2, encEntry, ltS_def, hl, tyAll, Nat.reduceAdd, Nat.reduceLT, Nat.reduceLeDiff, Nat.reduceEqDiff, Nat.reduceMul, Nat.reduceSub, Nat.reduceGT, reduceIte, Int.reduceNeg, Int.reduceToNat]) | (refine WP.drawW 14 (by decide +kernel) (by kernel_rfl) ?_; simp only [go_sem, hqi, h2, encEntry, ltS_def, hl, tyAll, Nat.reduceAdd, Nat.reduceLT, Nat.reduceLeDiff, Nat.reduceEqDiff, Nat.reduceMul, Nat.reduceSub, Nat.reduceGT, reduceIte, Int.reduceNeg, Int.reduceToNat]) |  refine And.intro ?_ ?_ | intro _))
            all_goals first | omega | skip
            refine ⟨q + 1, ⟨by omega, fun j hj hjq => ?_⟩, by omega, by (first | rfl | exact ⟨rfl, rfl⟩ | exact ⟨rfl, rfl, rfl⟩ | exact ⟨rfl, rfl, rfl, rfl⟩ | exact ⟨rfl, rfl, rfl, rfl, rfl⟩ | exact ⟨⟨rfl, rfl⟩, rfl⟩ | simp)⟩
            rcases Nat.lt_or_ge j q with h | h
            · exact hf j hj h
            · have : j = q := by omega
              subst this; exact hl
          | false =>
            have hin := ins_at (lt := ltE) (x := ⟨fmtF (stackAt N k), C[k]⟩) hq hf (fun _ => hl)
            (repeat' (first | refine WP.seq ?_ | refine WP.block ?_ | ((first | refine WP.region ?_ | refine WP.condW ?_ | refine WP.ret ?_ | refine WP.exit ?_ | refine WP.skip ?_); simp only [go_sem, hqi, h2, encEntry, ltS_def, hl, tyAll, Nat.reduceAdd, Nat.reduceLT, Nat.reduceLeDiff, Nat.reduceEqDiff, Nat.reduceMul, Nat.reduceSub, Nat.reduceGT, reduceIte, Int.reduceNeg, Int.reduceToNat]) | (refine WP.flowW 12 [⟨[1], [], [], [6, 30], [], []⟩, ⟨[27], [0], [], [6, 30], [], []⟩, ⟨[5], [], [], [6, 30], [], []⟩, ⟨[28, 29], [0, 1, 2], [], [6], [], [30]⟩, ⟨[30], [0, 1, 2, 3], [], [6], [], []⟩, ⟨[1], [], [], [6, 30], [], []⟩, ⟨[32], [5], [], [6, 30], [], []⟩, ⟨[5], [], [], [6, 30], [], []⟩, ⟨[33, 34], [5, 6, 7], [], [6, 30], [], []⟩, ⟨[35], [5, 6, 7, 8], [], [6, 30], [], []⟩, ⟨[31, 36], [0, 1, 2, 3, 4, 5, 6, 7, 8, 9], [], [6], [], []⟩, ⟨[], [], [], [30], [], [6]⟩, ⟨[], [0, 1, 2, 3, 4, 5, 6, 7, 8, 9, 10, 11], [], [], [], []⟩] [6, 27, 28, 29, 30, 31, 32, 33, 34, 35, 36, 37] [6, 30] [] (by decide +kernel) (by kernel_rfl) (by kernel_rfl) (by kernel_rfl) ?_; simp only [go_sem, hqi, h2, encEntry, ltS_def, hl, tyAll, Nat.reduceAdd, Nat.reduceLT, Nat.reduceLeDiff, Nat.reduceEqDiff, Nat.reduceMul, Nat.reduceSub, Nat.reduceGT, reduceIte, Int.reduceNeg, Int.reduceToNat]) | (refine WP.flowZ [3] 11 [⟨[], [], [], [58, 60, 61], [], [54]⟩, ⟨[3], [], [], [54, 58, 60, 61], [], []⟩, ⟨[7], [], [], [54, 58, 60, 61], [], []⟩, ⟨[55, 56], [1, 2], [], [54, 58, 60, 61], [], []⟩, ⟨[54, 57], [0, 1, 2, 3], [], [60, 61], [54], [58]⟩, ⟨[6], [], [54], [54, 58, 60, 61], [], []⟩, ⟨[59], [5], [54], [54, 58, 61], [], [60]⟩, ⟨[58, 60], [0, 1, 2, 3, 4, 5, 6], [54], [], [58], [61]⟩, ⟨[3], [], [54, 58], [54, 58, 60, 61], [], []⟩, ⟨[7], [], [54, 58], [54, 58, 60, 61], [], []⟩, ⟨[62, 63], [8, 9], [54, 58], [54, 58, 60, 61], [], []⟩, ⟨[], [0, 1, 2, 3, 4, 5, 6, 7, 8, 9, 10], [], [], [], []⟩, ⟨[], [0, 1, 2, 3, 4, 5, 6, 7, 8, 9, 10, 11], [], [], [], []⟩] [54, 55, 56, 57, 58, 59, 60, 61, 62, 63, 64] [54, 58, 60, 61] [54, 58] (by decide +kernel) (by kernel_rfl) (by kernel_rfl) (by kernel_rfl) ?_; simp only [go_sem, hqi, h2, encEntry, ltS_def, hl, tyAll, Nat.reduceAdd, Nat.reduceLT, Nat.reduceLeDiff, Nat.reduceEqDiff, Nat.reduceMul, Nat.reduceSub, Nat.reduceGT, reduceIte, Int.reduceNeg, Int.reduceToNat]) | (refine WP.flowW 11 [⟨[], [], [], [58, 60, 61], [], [54]⟩, ⟨[3], [], [], [54, 58, 60, 61], [], []⟩, ⟨[7], [], [], [54, 58, 60, 61], [], []⟩, ⟨[55, 56], [1, 2], [], [54, 58, 60, 61], [], []⟩, ⟨[54, 57], [0, 1, 2, 3], [], [60, 61], [54], [58]⟩, ⟨[6], [], [54], [54, 58, 60, 61], [], []⟩, ⟨[59], [5], [54], [54, 58, 61], [], [60]⟩, ⟨[58, 60], [0, 1, 2, 3, 4, 5, 6], [54], [], [58], [61]⟩, ⟨[3], [], [54, 58], [54, 58, 60, 61], [], []⟩, ⟨[7], [], [54, 58], [54, 58, 60, 61], [], []⟩, ⟨[62, 63], [8, 9], [54, 58], [54, 58, 60, 61], [], []⟩, ⟨[], [0, 1, 2, 3, 4, 5, 6, 7, 8, 9, 10], [], [], [], []⟩, ⟨[], [0, 1, 2, 3, 4, 5, 6, 7, 8, 9, 10, 11], [], [], [], []⟩] [54, 55, 56, 57, 58, 59, 60, 61, 62, 63, 64] [54, 58, 60, 61] [54, 58] (by decide +kernel) (by kernel_rfl) (by kernel_rfl) (by kernel_rfl) ?_; simp only [go_sem, hqi, h2, encEntry, ltS_def, hl, tyAll, Nat.reduceAdd, Nat.reduceLT, Nat.reduceLeDiff, Nat.reduceEqDiff, Nat.reduceMul, Nat.reduceSub, Nat.reduceGT, reduceIte, Int.reduceNeg, Int.reduceToNat]) | (refine WP.drawW 14 (by decide +kernel) (by kernel_rfl) ?_; simp only [go_sem, hqi, h2, encEntry, ltS_def, hl, tyAll, Nat.reduceAdd, Nat.reduceLT, Nat.reduceLeDiff, Nat.reduceEqDiff, Nat.reduceMul, Nat.reduceSub, Nat.reduceGT, reduceIte, Int.reduceNeg, Int.reduceToNat]) |  refine And.intro ?_ ?_ | intro _))
            all_goals first | omega | exact rlEntry (List.mem_of_mem_take ‹_›) | exact rlEntry (List.mem_of_mem_drop ‹_›) | (simp only [List.length_append, List.length_take, List.length_drop, List.length_map, List.length_cons, List.length_nil]; omega) | skip
            exact ⟨k + 1, by omega, by omega, rfl, by rw [hnw, hin, List.map_append, List.map_cons, List.map_take, List.map_drop]; simp [encEntry]⟩
        · have hqe : ¬ (q : Int) < (entsK N C k).length := by omega
          have hin := ins_at (lt := ltE) (x := ⟨fmtF (stackAt N k), C[k]⟩) hq hf (fun h => absurd h hql)
          have hr0 : Go.Vc.rowAt ((entsK N C k).map encEntry) q = [] := by unfold Go.Vc.rowAt; rw [List.getElem?_eq_none (by rw [List.length_map]; omega)]; rfl
          (repeat' (first | refine WP.seq ?_ | refine WP.block ?_ | ((first | refine WP.region ?_ | refine WP.condW ?_ | refine WP.ret ?_ | refine WP.exit ?_ | refine WP.skip ?_); simp only [go_sem, hqe, hr0, tyAll, Nat.reduceAdd, Nat.reduceLT, Nat.reduceLeDiff, Nat.reduceEqDiff, Nat.reduceMul, Nat.reduceSub, Nat.reduceGT, reduceIte, Int.reduceNeg, Int.reduceToNat]) | (refine WP.flowW 12 [⟨[1], [], [], [6, 30], [], []⟩, ⟨[27], [0], [], [6, 30], [], []⟩, ⟨[5], [], [], [6, 30], [], []⟩, ⟨[28, 29], [0, 1, 2], [], [6], [], [30]⟩, ⟨[30], [0, 1, 2, 3], [], [6], [], []⟩, ⟨[1], [], [], [6, 30], [], []⟩, ⟨[32], [5], [], [6, 30], [], []⟩, ⟨[5], [], [], [6, 30], [], []⟩, ⟨[33, 34], [5, 6, 7], [], [6, 30], [], []⟩, ⟨[35], [5, 6, 7, 8], [], [6, 30], [], []⟩, ⟨[31, 36], [0, 1, 2, 3, 4, 5, 6, 7, 8, 9], [], [6], [], []⟩, ⟨[], [], [], [30], [], [6]⟩, ⟨[], [0, 1, 2, 3, 4, 5, 6, 7, 8, 9, 10, 11], [], [], [], []⟩] [6, 27, 28, 29, 30, 31, 32, 33, 34, 35, 36, 37] [6, 30] [] (by decide +kernel) (by kernel_rfl) (by kernel_rfl) (by kernel_rfl) ?_; simp only [go_sem, hqe, hr0, tyAll, Nat.reduceAdd, Nat.reduceLT, Nat.reduceLeDiff, Nat.reduceEqDiff, Nat.reduceMul, Nat.reduceSub, Nat.reduceGT, reduceIte, Int.reduceNeg, Int.reduceToNat]) | (refine WP.flowZ [3] 11 [⟨[], [], [], [58, 60, 61], [], [54]⟩, ⟨[3], [], [], [54, 58, 60, 61], [], []⟩, ⟨[7], [], [], [54, 58, 60, 61], [], []⟩, ⟨[55, 56], [1, 2], [], [54, 58, 60, 61], [], []⟩, ⟨[54, 57], [0, 1, 2, 3], [], [60, 61], [54], [58]⟩, ⟨[6], [], [54], [54, 58, 60, 61], [], []⟩, ⟨[59], [5], [54], [54, 58, 61], [], [60]⟩, ⟨[58, 60], [0, 1, 2, 3, 4, 5, 6], [54], [], [58], [61]⟩, ⟨[3], [], [54, 58], [54, 58, 60, 61], [], []⟩, ⟨[7], [], [54, 58], [54, 58, 60, 61], [], []⟩, ⟨[62, 63], [8, 9], [54, 58], [54, 58, 60, 61], [], []⟩, ⟨[], [0, 1, 2, 3, 4, 5, 6, 7, 8, 9, 10], [], [], [], []⟩, ⟨[], [0, 1, 2, 3, 4, 5, 6, 7, 8, 9, 10, 11], [], [], [], []⟩] [54, 55, 56, 57, 58, 59, 60, 61, 62, 63, 64] [54, 58, 60, 61] [54, 58] (by decide +kernel) (by kernel_rfl) (by kernel_rfl) (by kernel_rfl) ?_; simp only [go_sem, hqe, hr0, tyAll, Nat.reduceAdd, Nat.reduceLT, Nat.reduceLeDiff, Nat.reduceEqDiff, Nat.reduceMul, Nat.reduceSub, Nat.reduceGT, reduceIte, Int.reduceNeg, Int.reduceToNat]) | (refine WP.flowW 11 [⟨[], [], [], [58, 60, 61], [], [54]⟩, ⟨[3], [], [], [54, 58, 60, 61], [], []⟩, ⟨[7], [], [], [54, 58, 60, 61], [], []⟩, ⟨[55, 56], [1, 2], [], [54, 58, 60, 61], [], []⟩, ⟨[54, 57], [0, 1, 2, 3], [], [60, 61], [54], [58]⟩, ⟨[6], [], [54], [54, 58, 60, 61], [], []⟩, ⟨[59], [5], [54], [54, 58, 61], [], [60]⟩, ⟨[58, 60], [0, 1, 2, 3, 4, 5, 6], [54], [], [58], [61]⟩, ⟨[3], [], [54, 58], [54, 58, 60, 61], [], []⟩, ⟨[7], [], [54, 58], [54, 58, 60, 61], [], []⟩, ⟨[62, 63], [8, 9], [54, 58], [54, 58, 60, 61], [], []⟩, ⟨[], [0, 1, 2, 3, 4, 5, 6, 7, 8, 9, 10], [], [], [], []⟩, ⟨[], [0, 1, 2, 3, 4, 5, 6, 7, 8, 9, 10, 11], [], [], [], []⟩] [54, 55, 56, 57, 58, 59, 60, 61, 62, 63, 64] [54, 58, 60, 61] [54, 58] (by decide +kernel) (by kernel_rfl) (by kernel_rfl) (by kernel_rfl) ?_; simp only [go_sem, hqe, hr0, tyAll, Nat.reduceAdd, Nat.reduceLT, Nat.reduceLeDiff, Nat.reduceEqDiff, Nat.reduceMul, Nat.reduceSub, Nat.reduceGT, reduceIte, Int.reduceNeg, Int.reduceToNat]) | (refine WP.drawW 14 (by decide +kernel) (by kernel_rfl) ?_; simp only [go_sem, hqe, hr0, tyAll, Nat.reduceAdd, Nat.reduceLT, Nat.reduceLeDiff, Nat.reduceEqDiff, Nat.reduceMul, Nat.reduceSub, Nat.reduceGT, reduceIte, Int.reduceNeg, Int.reduceToNat]) |  refine And.intro ?_ ?_ | intro _))
          all_goals first | omega | exact rlEntry (List.mem_of_mem_take ‹_›) | exact rlEntry (List.mem_of_mem_drop ‹_›) | (simp only [List.length_append, List.length_take, List.length_drop, List.length_map, List.length_cons, List.length_nil]; omega) | skip
          exact ⟨k + 1, by omega, by omega, rfl, by rw [hnw, hin, List.map_append, List.map_cons, List.map_take, List.map_drop]; simp [encEntry]⟩
    · have hge : ¬ (k : Int) < C.length := by omega
      have he : entriesOf N C = entsK N C C.length := if_pos hp
      (repeat' (first | refine WP.seq ?_ | refine WP.block ?_ | ((first | refine WP.region ?_ | refine WP.condW ?_ | refine WP.ret ?_ | refine WP.exit ?_ | refine WP.skip ?_); simp only [go_sem, hge, he, tyAll, Nat.reduceAdd, Nat.reduceLT, Nat.reduceLeDiff, Nat.reduceEqDiff, Nat.reduceMul, Nat.reduceSub, Nat.reduceGT, reduceIte, Int.reduceNeg, Int.reduceToNat]) | (refine WP.flowW 12 [⟨[1], [], [], [6, 30], [], []⟩, ⟨[27], [0], [], [6, 30], [], []⟩, ⟨[5], [], [], [6, 30], [], []⟩, ⟨[28, 29], [0, 1, 2], [], [6], [], [30]⟩, ⟨[30], [0, 1, 2, 3], [], [6], [], []⟩, ⟨[1], [], [], [6, 30], [], []⟩, ⟨[32], [5], [], [6, 30], [], []⟩, ⟨[5], [], [], [6, 30], [], []⟩, ⟨[33, 34], [5, 6, 7], [], [6, 30], [], []⟩, ⟨[35], [5, 6, 7, 8], [], [6, 30], [], []⟩, ⟨[31, 36], [0, 1, 2, 3, 4, 5, 6, 7, 8, 9], [], [6], [], []⟩, ⟨[], [], [], [30], [], [6]⟩, ⟨[], [0, 1, 2, 3, 4, 5, 6, 7, 8, 9, 10, 11], [], [], [], []⟩] [6, 27, 28, 29, 30, 31, 32, 33, 34, 35, 36, 37] [6, 30] [] (by decide +kernel) (by kernel_rfl) (by kernel_rfl) (by kernel_rfl) ?_; simp only [go_sem, hge, he, tyAll, Nat.reduceAdd, Nat.reduceLT, Nat.reduceLeDiff, Nat.reduceEqDiff, Nat.reduceMul, Nat.reduceSub, Nat.reduceGT, reduceIte, Int.reduceNeg, Int.reduceToNat]) | (refine WP.flowZ [3] 11 [⟨[], [], [], [58, 60, 61], [], [54]⟩, ⟨[3], [], [], [54, 58, 60, 61], [], []⟩, ⟨[7], [], [], [54, 58, 60, 61], [], []⟩, ⟨[55, 56], [1, 2], [], [54, 58, 60, 61], [], []⟩, ⟨[54, 57], [0, 1, 2, 3], [], [60, 61], [54], [58]⟩, ⟨[6], [], [54], [54, 58, 60, 61], [], []⟩, ⟨[59], [5], [54], [54, 58, 61], [], [60]⟩, ⟨[58, 60], [0, 1, 2, 3, 4, 5, 6], [54], [], [58], [61]⟩, ⟨[3], [], [54, 58], [54, 58, 60, 61], [], []⟩, ⟨[7], [], [54, 58], [54, 58, 60, 61], [], []⟩, ⟨[62, 63], [8, 9], [54, 58], [54, 58, 60, 61], [], []⟩, ⟨[], [0, 1, 2, 3, 4, 5, 6, 7, 8, 9, 10], [], [], [], []⟩, ⟨[], [0, 1, 2, 3, 4, 5, 6, 7, 8, 9, 10, 11], [], [], [], []⟩] [54, 55, 56, 57, 58, 59, 60, 61, 62, 63, 64] [54, 58, 60, 61] [54, 58] (by decide +kernel) (by kernel_rfl) (by kernel_rfl) (by kernel_rfl) ?_; simp only [go_sem, hge, he, tyAll, Nat.reduceAdd, Nat.reduceLT, Nat.reduceLeDiff, Nat.reduceEqDiff, Nat.reduceMul, Nat.reduceSub, Nat.reduceGT, reduceIte, Int.reduceNeg, Int.reduceToNat]) | (refine WP.flowW 11 [⟨[], [], [], [58, 60, 61], [], [54]⟩, ⟨[3], [], [], [54, 58, 60, 61], [], []⟩, ⟨[7], [], [], [54, 58, 60, 61], [], []⟩, ⟨[55, 56], [1, 2], [], [54, 58, 60, 61], [], []⟩, ⟨[54, 57], [0, 1, 2, 3], [], [60, 61], [54], [58]⟩, ⟨[6], [], [54], [54, 58, 60, 61], [], []⟩, ⟨[59], [5], [54], [54, 58, 61], [], [60]⟩, ⟨[58, 60], [0, 1, 2, 3, 4, 5, 6], [54], [], [58], [61]⟩, ⟨[3], [], [54, 58], [54, 58, 60, 61], [], []⟩, ⟨[7], [], [54, 58], [54, 58, 60, 61], [], []⟩, ⟨[62, 63], [8, 9], [54, 58], [54, 58, 60, 61], [], []⟩, ⟨[], [0, 1, 2, 3, 4, 5, 6, 7, 8, 9, 10], [], [], [], []⟩, ⟨[], [0, 1, 2, 3, 4, 5, 6, 7, 8, 9, 10, 11], [], [], [], []⟩] [54, 55, 56, 57, 58, 59, 60, 61, 62, 63, 64] [54, 58, 60, 61] [54, 58] (by decide +kernel) (by kernel_rfl) (by kernel_rfl) (by kernel_rfl) ?_; simp only [go_sem, hge, he, tyAll, Nat.reduceAdd, Nat.reduceLT, Nat.reduceLeDiff, Nat.reduceEqDiff, Nat.reduceMul, Nat.reduceSub, Nat.reduceGT, reduceIte, Int.reduceNeg, Int.reduceToNat]) | (refine WP.drawW 14 (by decide +kernel) (by kernel_rfl) ?_; simp only [go_sem, hge, he, tyAll, Nat.reduceAdd, Nat.reduceLT, Nat.reduceLeDiff, Nat.reduceEqDiff, Nat.reduceMul, Nat.reduceSub, Nat.reduceGT, reduceIte, Int.reduceNeg, Int.reduceToNat]) |  refine And.intro ?_ ?_ | intro _))
      all_goals first | omega | skip
      rw [show k = C.length by omega]
end
end Go.Proofs.YtklcphbgaeiegaaGreatDoor
-- x

/-
  DERIVED. A list that a call hands back as its own, taken as one that may only be read.
-/
namespace Go.Vc
set_option linter.unusedVariables false
def allV (rows : List (List SV)) : Prop := ∀ row ∈ rows, ∀ c ∈ row, ∃ x, c = .v x
theorem ObR.toSl {w : World} {X X' : Nat → Prop} {β : Nat → Value} {v : Value} {e s : Nat} {rows : List (List SV)} (h : ObR w X' β v (.sl e s rows)) (hX : ∀ b, blk v = some b → ¬ X b) (hv : allV rows) : Rp w X (.sl s rows) v := by
  cases h with
  | nil e s h => subst h; exact .nil s _ _
  | sl b cap cur us hv' hh h1 h2 h3 h4 h5 h6 h7 =>
    subst hv'
    refine .sl b 0 cap us (hX b rfl) (lt_of_heap hh) h1 h4 (fun i k row c hr hc => ?_) h6 (fun i k row c hr hc => ?_)
    · simp only [World.cell?, hh, Nat.zero_add]
      exact h5 i k row c hr hc
    · obtain ⟨x, rfl⟩ := hv row (List.mem_of_getElem? hr) c (List.mem_of_getElem? hc)
      have := h7 i k row _ hr hc
      cases this
      exact .v _
section
variable {P : Program} {f : FuncId} {args : List SV} {d e s : Nat} {rows : List (List SV)}
theorem Holds.frozen (h : Holds P f args (.own d) [(d, .sl e s rows)]) (hv : allV rows) : Holds P f args (.sl s rows) [] := by
  intro w X vs hG hX hl ha
  refine (h w X vs hG hX hl ha).mono fun en w' ⟨v, β, he, hb, hβ, hR, hO, hn⟩ => ?_
  refine ⟨v, β, he, hb, hβ, ?_, ⟨fun id ob hi => (by cases hi), fun i j oi oj b hi => (by cases hi)⟩, fun id ob b hi => (by cases hi)⟩
  have := hR.own_inv; subst this
  refine .p ((hO.1 d (.sl e s rows) (by simp [lk])).toSl (fun b hb' hx => ?_) hv)
  have h1 := hn d (.sl e s rows) b (by simp [lk]) hb'
  rcases hx with hx | ⟨i, o, hi, _⟩
  · have := hX b hx; omega
  · cases hi
theorem Holds.frozenT {y : Value} (h : Holds P f args (.tup [.own d, .v y]) [(d, .sl e s rows)]) (hv : allV rows) : Holds P f args (.tup [.sl s rows, .v y]) [] := by
  intro w X vs hG hX hl ha
  refine (h w X vs hG hX hl ha).mono fun en w' ⟨v, β, he, hb, hβ, hR, hO, hn⟩ => ?_
  refine ⟨v, β, he, hb, hβ, ?_, ⟨fun id ob hi => (by cases hi), fun i j oi oj b hi => (by cases hi)⟩, fun id ob b hi => (by cases hi)⟩
  obtain ⟨us, rfl, hul, hh⟩ := hR.tup_inv
  refine .tup hul fun k c u hc hu => ?_
  match k, hc with
  | 0, hc =>
    simp at hc; subst hc
    have := (hh 0 _ u rfl hu).own_inv
    subst this
    refine .p ((hO.1 d (.sl e s rows) (by simp [lk])).toSl (fun b hb' hx => ?_) hv)
    have h1 := hn d (.sl e s rows) b (by simp [lk]) hb'
    rcases hx with hx | ⟨i, o, hi, _⟩
    · have := hX b hx; omega
    · cases hi
  | 1, hc =>
    simp at hc; subst hc
    have := (hh 1 _ u rfl hu).v_inv
    subst this; exact .p (.v _)
  | k + 2, hc => simp at hc
end
/-- the same of a struct of two lists -/
theorem Holds.frozenA {P : Program} {f : FuncId} {args : List SV} {d1 d2 e1 s1 e2 s2 : Nat} {rows1 rows2 : List (List SV)} (hd : d1 ≠ d2) (h : Holds P f args (.agg [.own d1, .own d2]) [(d1, .sl e1 s1 rows1), (d2, .sl e2 s2 rows2)]) (hv1 : allV rows1) (hv2 : allV rows2) : Holds P f args (.agg [.sl s1 rows1, .sl s2 rows2]) [] := by
  intro w X vs hG hX hl ha
  refine (h w X vs hG hX hl ha).mono fun en w' ⟨v, β, he, hb, hβ, hR, hO, hn⟩ => ?_
  refine ⟨v, β, he, hb, hβ, ?_, ⟨fun id ob hi => (by cases hi), fun i j oi oj b hi => (by cases hi)⟩, fun id ob b hi => (by cases hi)⟩
  obtain ⟨us, rfl, hul, hh⟩ := hR.agg_inv
  have l1 : lk d1 [(d1, Ob.sl e1 s1 rows1), (d2, .sl e2 s2 rows2)] = some (.sl e1 s1 rows1) := by simp [lk]
  have l2 : lk d2 [(d1, Ob.sl e1 s1 rows1), (d2, .sl e2 s2 rows2)] = some (.sl e2 s2 rows2) := by simp [lk, Ne.symm hd]
  have key : ∀ {d e s : Nat} {rows : List (List SV)}, lk d [(d1, Ob.sl e1 s1 rows1), (d2, .sl e2 s2 rows2)] = some (.sl e s rows) → allV rows → R w' (XX X β []) β (.sl s rows) (β d) := fun {d e s rows} hl hv => by
    refine .p ((hO.1 d _ hl).toSl (fun b hb' hx => ?_) hv)
    have h1 := hn d _ b hl hb'
    rcases hx with hx | ⟨i, o, hi, _⟩
    · have := hX b hx; omega
    · cases hi
  refine .agg hul fun k c u hc hu => ?_
  match k, hc with
  | 0, hc =>
    simp at hc; subst hc
    have := (hh 0 _ u rfl hu).own_inv
    subst this; exact key l1 hv1
  | 1, hc =>
    simp at hc; subst hc
    have := (hh 1 _ u rfl hu).own_inv
    subst this; exact key l2 hv2
  | k + 2, hc => simp at hc
theorem Cn.frozenA {P : Program} {f : FuncId} {X : Type} {dec : List SV → X} {A : X → List SV} {pre : X → Prop} {e1 s1 e2 s2 : Nat} {rows1 rows2 : X → List (List SV)} (hv1 : ∀ x, allV (rows1 x)) (hv2 : ∀ x, allV (rows2 x))
    (h : Cn P f (Go.Vc.pur dec A pre (fun d _ => .agg [.own d, .own (d + 1000)]) (fun d x => [(d, .sl e1 s1 (rows1 x)), (d + 1000, .sl e2 s2 (rows2 x))]))) : Cn P f (Go.Vc.pur dec A pre (fun _ x => .agg [.sl s1 (rows1 x), .sl s2 (rows2 x)]) (fun _ _ => [])) :=
  ⟨h.call, fun d args ha => (h.holds d args ha).frozenA (by omega) (hv1 _) (hv2 _), fun _ _ _ h => h.elim⟩
theorem Cn.frozen {P : Program} {f : FuncId} {X : Type} {dec : List SV → X} {A : X → List SV} {pre : X → Prop} {e s : Nat} {rows : X → List (List SV)} (hv : ∀ x, allV (rows x))
    (h : Cn P f (Go.Vc.pur dec A pre (fun d _ => .own d) (fun d x => [(d, .sl e s (rows x))]))) : Cn P f (Go.Vc.pur dec A pre (fun _ x => .sl s (rows x)) (fun _ _ => [])) :=
  ⟨h.call, fun d args ha => (h.holds d args ha).frozen (hv _), fun _ _ _ h => h.elim⟩
theorem Cn.frozenT {P : Program} {f : FuncId} {X : Type} {dec : List SV → X} {A : X → List SV} {pre : X → Prop} {e s : Nat} {rows : X → List (List SV)} {y : X → Value} (hv : ∀ x, allV (rows x))
    (h : Cn P f (Go.Vc.pur dec A pre (fun d x => .tup [.own d, .v (y x)]) (fun d x => [(d, .sl e s (rows x))]))) : Cn P f (Go.Vc.pur dec A pre (fun _ x => .tup [.sl s (rows x), .v (y x)]) (fun _ _ => [])) :=
  ⟨h.call, fun d args ha => (h.holds d args ha).frozenT (hv _), fun _ _ _ h => h.elim⟩
end Go.Vc
