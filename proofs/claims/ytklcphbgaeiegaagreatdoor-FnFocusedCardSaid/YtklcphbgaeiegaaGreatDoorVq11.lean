/-
  DERIVED. Several texts of ours in one: VtFocusedL, VtPrL, VcY, VtPrR.
-/
import Derived.Test.YtklcphbgaeiegaaGreatDoorVq0
import Derived.Test.YtklcphbgaeiegaaGreatDoorVq1
import Derived.Test.YtklcphbgaeiegaaGreatDoorVq2
import Derived.Test.YtklcphbgaeiegaaGreatDoorVq3
import Derived.Test.YtklcphbgaeiegaaGreatDoorVq4
import Derived.Test.YtklcphbgaeiegaaGreatDoorVq5
import Derived.Test.YtklcphbgaeiegaaGreatDoorVq6
import Derived.Test.YtklcphbgaeiegaaGreatDoorVq7
import Derived.Test.YtklcphbgaeiegaaGreatDoorVq8
import Derived.Test.YtklcphbgaeiegaaGreatDoorVq9
import Derived.Test.YtklcphbgaeiegaaGreatDoorVq10
import Derived.Deep.Strs
import Derived.Lib.SmallJoins
set_option linter.unusedSimpArgs false
set_option linter.unusedVariables false
namespace Go.Proofs.YtklcphbgaeiegaaGreatDoor
open Go.Vc
attribute [local go_sem] St.runR St.runW St.stepV offV St.step St.stepU St.stepG mkCond guardB St.prK St.pr St.prLen St.eff St.callE St.callD St.callF St.callL aI aB aS aR aC St.isM St.argL Ctr.pure Ctr.lend Ctr.move Ctr.isL Ctr.wri pur len lentBy St.lentV St.lent1 nthS argsR restOf obsR pairs swapL unObs backL St.resL erL SV.ren1 SV.up SV.up2 Ob.up St.fzL cellIds partIds St.intoRow SV.ownId St.fz SV.fz1 St.prep St.mvL St.mv SV.re1 rnOk St.prEq vals eqCells scEq Value.kd St.prStr St.prCut cutR St.bnd St.prMin St.bld isShift outL retL outJ oR oC St.ev St.get St.put St.new St.kill SV.kill SV.kill1 Ob.kill St.app St.wrt St.rowsOf St.res St.killL lk er argsL SV.strip SV.need SV.share SV.share1 SV.owns SV.owns1 SV.owns2 SV.good SV.good1 SV.rok SV.rok1 SV.rok2 SV.isV SV.isV2 nodupN SV.cells SV.one SV.pur Ob.pb partsIn rowsIn splice cellsAt dstOk scal2 scal1 thenK blockK retK outK outs okC okL okA okT nilC nilL nilA nilT keepC keepL keepA keepT St.runG St.dltK St.least St.clean St.final St.hide offK badS badO SV.refs SV.leaf SV.leaf2 Ob.refs dlOk fpAt Go.Vc.cover tups SV.ofAgg St.out outC subL St.has rng wr Value.oneCell' Option.isSome_some Option.isSome_none List.nil_append Bool.false_eq_true List.map_cons List.map_nil List.all_cons List.all_nil List.length_cons List.length_nil List.drop_zero List.drop_succ_cons List.take_succ_cons List.take_zero List.drop_nil List.take_nil List.getElem?_cons_zero List.getElem?_cons_succ List.getElem?_nil List.cons_append List.nil_append List.append_nil List.append_assoc List.flatMap_cons List.flatMap_nil List.contains_cons List.contains_nil List.set_cons_zero List.set_cons_succ List.getElem?_toArray Option.getD_some Option.getD_none Option.map_some Option.map_none Option.bind_some Option.some.injEq Prod.mk.injEq if_true if_false true_and and_true and_self and_false false_and Bool.and_false Bool.false_and Bool.or_true Bool.true_or Bool.or_false Bool.false_or ne_eq not_true_eq_false not_false_eq_true decide_true decide_false List.mem_cons List.not_mem_nil List.filter_cons List.filter_nil List.any_cons List.any_nil List.isEmpty_nil List.isEmpty_cons Option.getD_none or_false false_or true_or or_true forall_eq_or_imp forall_eq reduceCtorEq exists_eq exists_eq' exists_eq_left' exists_eq_left exists_eq_right exists_eq_right' imp_self implies_true Bool.and_true Bool.true_and Bool.and_self beq_self_eq_true List.replicate_succ List.replicate_zero forall_const false_implies pickB_or pickB_and beqT beqF Int.toNat_natCast List.length_map List.length_replicate ge_iff_le gt_iff_lt decide_eq_true_eq decide_eq_false_iff_not Bool.and_eq_true Bool.or_eq_true Bool.not_eq_true' Bool.not_eq_false' condG List.toList_toArray Bool.or_eq_false_iff Bool.and_eq_false_iff Int.not_lt Int.not_le beq_iff_eq beq_eq_false_iff_ne bne_iff_ne bne_eq_false_iff_eq ne_eq Bool.not_true Bool.not_false exists_and_left
section
open Go.Vc
set_option linter.unusedSimpArgs false
set_option linter.unusedVariables false
set_option maxHeartbeats 1000000
set_option maxRecDepth 10000
attribute [local irreducible] Go.Vc.WP
attribute [local go_sem] cx0_t cx0_c
open Go.Pl
attribute [local go_sem] isV_Node isV_It isV_Entry decNode_enc decFrame_enc oneFrame_enc stkA oneFrame_ab oneNode_abc decI_enc prA encI_inj decEntry_enc decU_enc
def kFocZ : Ctr := pur (fun args => (prA args 0, aS args 1)) (fun x => [.agg [.sl 3 (x.1.1.map encNode), .sl 1 (x.1.2.map encI)], .v (.string x.2)])
  (fun x => (x.1.1.length ≤ 1048576 ∧ ∀ n ∈ x.1.1, n.name.size ≤ 1048576) ∧ x.1.2.length ≤ 1048576) (fun _ x => .agg [.sl 3 ((mapP (pick x.2 true) x.1.1 x.1.2).1.map encNode), .sl 1 ((mapP (pick x.2 true) x.1.1 x.1.2).2.map encI)]) (fun _ _ => [])
theorem cFocZ : Cn Tryz.prog 31 kFocZ := Cn.frozenA (fun x => allV_Node _) (fun x => allV_I _) cFocusOnI
def kIgnZ : Ctr := pur (fun args => (prA args 0, aS args 1)) (fun x => [.agg [.sl 3 (x.1.1.map encNode), .sl 1 (x.1.2.map encI)], .v (.string x.2)])
  (fun x => (x.1.1.length ≤ 1048576 ∧ ∀ n ∈ x.1.1, n.name.size ≤ 1048576) ∧ x.1.2.length ≤ 1048576) (fun _ x => .agg [.sl 3 ((mapP (pick x.2 false) x.1.1 x.1.2).1.map encNode), .sl 1 ((mapP (pick x.2 false) x.1.1 x.1.2).2.map encI)]) (fun _ _ => [])
theorem cIgnZ : Cn Tryz.prog 32 kIgnZ := Cn.frozenA (fun x => allV_Node _) (fun x => allV_I _) cIgnoreI
def kFroZ : Ctr := pur (fun args => (prA args 0, aS args 1)) (fun x => [.agg [.sl 3 (x.1.1.map encNode), .sl 1 (x.1.2.map encI)], .v (.string x.2)])
  (fun x => (x.1.1.length ≤ 1048576 ∧ ∀ n ∈ x.1.1, n.name.size ≤ 1048576) ∧ x.1.2.length ≤ 1048576) (fun _ x => .agg [.sl 3 ((mapP (fromG x.2) x.1.1 x.1.2).1.map encNode), .sl 1 ((mapP (fromG x.2) x.1.1 x.1.2).2.map encI)]) (fun _ _ => [])
theorem cFroZ : Cn Tryz.prog 34 kFroZ := Cn.frozenA (fun x => allV_Node _) (fun x => allV_I _) cFromOnI
theorem mapP_sq {g : List Frame → List Frame} (hg : Fine g) (hl : ∀ L, (g L).length ≤ L.length) {N : List Node} {C : List Int} {a : Nat} (hN : N.length ≤ a) (hC : C.length ≤ a) : (mapP g N C).1.length ≤ a * a ∧ (mapP g N C).2.length ≤ a * a := by
  unfold mapP
  have h1 := entriesOf_len N C
  have h2 := List.length_filterMap_le (mapG g) (entriesOf N C)
  have hm : a * ((entriesOf N C).filterMap (mapG g)).length ≤ a * a := Nat.mul_le_mul_left _ (by omega)
  cases hp : profileOf ((entriesOf N C).filterMap (mapG g)) with
  | none => simp
  | some t =>
    have h3 := profGo_len (B := a) ((entriesOf N C).filterMap (mapG g)) ([], []) 0 (fun e he f hf => by
      obtain ⟨x, hx, hmx⟩ := List.mem_filterMap.1 he
      obtain ⟨_, h4, _, _, h5, _⟩ := mapG_frs hg hx hmx
      rw [h5] at hf; cases hf
      rw [h4]
      have h6 := hl (frsE x)
      have h7 := (ent_frs hx).2.2.2.1
      omega) (by simp) (by simp) t hp
    simp only [Option.getD_some]
    omega
def nmF (a : Nat) : ByteArray := match a with
  | 0 => ⟨#[109, 97, 105, 110]⟩
  | 1 => ⟨#[102]⟩
  | 2 => ⟨#[103, 103]⟩
  | _ => ⟨#[104]⟩
theorem row_nmF {q : Nat} (h : q < 4) : Go.Vc.rowAt [[SV.v (Value.string ⟨#[109, 97, 105, 110]⟩)], [SV.v (Value.string ⟨#[102]⟩)], [SV.v (Value.string ⟨#[103, 103]⟩)], [SV.v (Value.string ⟨#[104]⟩)]] q = [SV.v (Value.string (nmF q))] := by
  match q, h with
  | 0, _ => rfl
  | 1, _ => rfl
  | 2, _ => rfl
  | 3, _ => rfl
theorem nmF_size (q : Nat) : (nmF q).size ≤ 4 := by
  unfold nmF
  split <;> decide
theorem wf_merge {N : List Node} {C : List Int} (hN : N.length ≤ 28) (hC : C.length ≤ 28) (s : ByteArray) :
    wfE (entriesOf (mapP (pick s true) N C).1 (mapP (pick s true) N C).2 ++ entriesOf (mapP (pick s false) N C).1 (mapP (pick s false) N C).2) ∧
    ((mrgP (mapP (pick s true) N C) (mapP (pick s false) N C)).getD ([], [])).1.length ≤ 1048576 ∧ ((mrgP (mapP (pick s true) N C) (mapP (pick s false) N C)).getD ([], [])).2.length ≤ 1048576 := by
  have h1 := entriesOf_len N C
  have h2 := List.length_filter_le (keepS s true) (entriesOf N C)
  have h3 := List.length_filter_le (keepS s false) (entriesOf N C)
  have hin : ∀ e ∈ entriesOf (mapP (pick s true) N C).1 (mapP (pick s true) N C).2 ++ entriesOf (mapP (pick s false) N C).1 (mapP (pick s false) N C).2, e ∈ entriesOf N C := by
    rw [pick_back, pick_back]
    intro e he
    rcases List.mem_append.1 he with h | h
    · exact (List.mem_filter.1 h).1
    · exact (List.mem_filter.1 h).1
  have hlen : (entriesOf (mapP (pick s true) N C).1 (mapP (pick s true) N C).2 ++ entriesOf (mapP (pick s false) N C).1 (mapP (pick s false) N C).2).length ≤ 56 := by
    rw [pick_back, pick_back, List.length_append]; omega
  refine ⟨⟨by omega, fun e he => ?_⟩, ?_⟩
  · have := entriesOf_size (hin e he); omega
  · have e : mrgP (mapP (pick s true) N C) (mapP (pick s false) N C) = profileOf (entriesOf (mapP (pick s true) N C).1 (mapP (pick s true) N C).2 ++ entriesOf (mapP (pick s false) N C).1 (mapP (pick s false) N C).2) := if_pos ⟨pick_ok s true N C, pick_ok s false N C⟩
    rw [e]
    generalize entriesOf (mapP (pick s true) N C).1 (mapP (pick s true) N C).2 ++ entriesOf (mapP (pick s false) N C).1 (mapP (pick s false) N C).2 = L at hin hlen
    cases hp : profileOf L with
    | none => simp
    | some t =>
      have h4 := profGo_len (B := 28) L ([], []) 0 (fun e he f hf => by
        obtain ⟨_, _, _, h5, h6⟩ := ent_frs (hin e he)
        rw [h6] at hf; cases hf
        omega) (by simp) (by simp) t hp
      simp only [Option.getD_some]
      omega
theorem cut_head {e s : ByteArray} (h : ∃ R, e = bts (s.data.toList ++ 58 :: R)) : s.size < e.size ∧ e.extract 0 ((s.size : Int) + 1).toNat = s ++ ⟨#[58]⟩ := by
  obtain ⟨R, rfl⟩ := h
  have hs : s.data.toList.length = s.size := by rw [Array.length_toList]; rfl
  have h1 : (bts (s.data.toList ++ 58 :: R)).size = s.size + 1 + R.length := by
    show (s.data.toList ++ 58 :: R).toArray.size = _
    rw [List.size_toArray, List.length_append, hs, List.length_cons]; omega
  refine ⟨by omega, ?_⟩
  rw [show ((s.size : Int) + 1).toNat = s.size + 1 by omega]
  apply ByteArray.ext
  apply Array.toList_inj.1
  rw [ByteArray.data_extract, Array.toList_extract, ByteArray.data_append, Array.toList_append]
  show (List.extract (s.data.toList ++ 58 :: R) 0 (s.size + 1)) = _
  simp only [List.extract, Nat.sub_zero, List.drop_zero]
  rw [List.take_append, hs, List.take_of_length_le (by omega), show s.size + 1 - s.size = 1 by omega]
  rfl
section
noncomputable def cxLFocd : Cx := { P := Tryz.prog, tys := tys, C := [(12, kBig), (30, kAt), (13, kDrawZ), (31, kFocZ), (32, kIgnZ), (34, kFroZ), (33, kMrgZ), (35, kEntZ), (36, kSame), (15, kTotal)], hty := tysOk, hC := COk.cons cBig (COk.cons cAt (COk.cons cDrawZ (COk.cons cFocZ (COk.cons cIgnZ (COk.cons cFroZ (COk.cons cMrgZ (COk.cons cEntZS (COk.cons cSame (COk.cons cTotalS (COk.nil _)))))))))) }
theorem cxLFocd_t : cxLFocd.tys = tys := rfl
theorem cxLFocd_c : cxLFocd.C = [(12, kBig), (30, kAt), (13, kDrawZ), (31, kFocZ), (32, kIgnZ), (34, kFroZ), (33, kMrgZ), (35, kEntZ), (36, kSame), (15, kTotal)] := rfl
attribute [local go_sem] cxLFocd_t cxLFocd_c kBig kAt kDrawZ kFocZ kIgnZ kFroZ kMrgZ kEntZ kSame kTotal
theorem lawFocused (b : List Int) (hb : b.length ≤ maxLen) (hz : ∀ z ∈ b, IntKind.u8.min ≤ z ∧ z ≤ IntKind.u8.max) : Holds Tryz.prog 7 [.sl 1 (b.map encU)] (.v (.bool true)) [] := by
  have hm : maxLen = 9223372036854775807 := rfl
  have hz' : ∀ z ∈ b, 0 ≤ z ∧ z ≤ 255 := fun z h => hz z h
  refine Holds.go (c := cxLFocd) Tryz.func7 rfl Tryz.results7 Tryz.ntmps7 (by omega) (by simp) rfl ?_
  intro X0 w0
  by_cases hbig : 1048576 < (b.length : Int)
  · (repeat' (first | refine WP.seq ?_ | refine WP.block ?_ | ((first | refine WP.region ?_ | refine WP.condW ?_ | refine WP.ret ?_ | refine WP.exit ?_ | refine WP.skip ?_); simp only [go_sem, hbig, tyAll, Nat.reduceAdd, Nat.reduceLT, Nat.reduceLeDiff, Nat.reduceEqDiff, Nat.reduceMul, Nat.reduceSub, Nat.reduceGT, reduceIte, Int.reduceNeg, Int.reduceToNat]) | ((first | refine WP.drawW 27 (by decide +kernel) (by kernel_rfl) ?_); simp only [go_sem, hbig, tyAll, Nat.reduceAdd, Nat.reduceLT, Nat.reduceLeDiff, Nat.reduceEqDiff, Nat.reduceMul, Nat.reduceSub, Nat.reduceGT, reduceIte, Int.reduceNeg, Int.reduceToNat]) |  refine And.intro ?_ ?_ | intro _))
    all_goals first | omega | skip
    all_goals trace_state
  have hb1 : b.length ≤ 1048576 := by omega
  have hdr := drA_ok hb1 hz'
  have hnm := drp_names hdr
  have hok := hdr.ok
  obtain ⟨hl1, hl2⟩ := drp_lens hdr
  have hat := atV_bd hz' 0
  have hq0 : 0 ≤ (atV b 0).tmod 4 := Int.tmod_nonneg _ hat.1
  have hq1 : (atV b 0).tmod 4 < 4 := Int.tmod_lt_of_pos _ (by omega)
  obtain ⟨q, hq⟩ : ∃ q : Nat, (atV b 0).tmod 4 = q := ⟨_, (Int.toNat_of_nonneg hq0).symm⟩
  have hq4 : q < 4 := by omega
  have hqi : (q : Int) < 4 := by omega
  have hrow := row_nmF hq4
  have hsz := nmF_size q
  generalize nmF q = s at hrow hsz
  have hw1 : (drA b).1.length ≤ 1048576 := by omega
  have hw2 : (drA b).2.length ≤ 1048576 := by omega
  have hnm' : ∀ n ∈ (drA b).1, n.name.size ≤ 1048576 := fun n hn => Nat.le_trans (hnm n hn) (by omega)
  obtain ⟨wm, wm1, wm2⟩ := wf_merge (N := (drA b).1) (C := (drA b).2) (by omega) (by omega) s
  obtain ⟨t, ft1, ft2, ft3⟩ := focus_merge (N := (drA b).1) (C := (drA b).2) s
  have hmrg : mrgP (mapP (pick s true) (drA b).1 (drA b).2) (mapP (pick s false) (drA b).1 (drA b).2) = some t := by
    unfold mrgP
    rw [if_pos ⟨pick_ok s true _ _, pick_ok s false _ _⟩]; exact ft1
  rw [hmrg] at wm1 wm2
  simp only [Option.getD_some] at wm1 wm2
  have htn : ∀ n ∈ t.1, n.name.size ≤ 8 := by
    have := profileOf_names (entriesOf (mapP (pick s true) (drA b).1 (drA b).2).1 (mapP (pick s true) (drA b).1 (drA b).2).2 ++ entriesOf (mapP (pick s false) (drA b).1 (drA b).2).1 (mapP (pick s false) (drA b).1 (drA b).2).2)
    rw [ft1] at this; exact this
  have hA := mapP_sq (a := 28) (pick_fine s true) (pick_len s true) (N := (drA b).1) (C := (drA b).2) (by omega) (by omega)
  have hB := mapP_sq (a := 28) (pick_fine s false) (pick_len s false) (N := (drA b).1) (C := (drA b).2) (by omega) (by omega)
  have hD := mapP_sq (a := 28) (fromG_fine s) (fromG_len s) (N := (drA b).1) (C := (drA b).2) (by omega) (by omega)
  have nA : ∀ n ∈ (mapP (pick s true) (drA b).1 (drA b).2).1, n.name.size ≤ 8 := profileOf_names _
  have nB : ∀ n ∈ (mapP (pick s false) (drA b).1 (drA b).2).1, n.name.size ≤ 8 := profileOf_names _
  have nD : ∀ n ∈ (mapP (fromG s) (drA b).1 (drA b).2).1, n.name.size ≤ 8 := profileOf_names _
  have f1 := focus_none s (drA b).1 (drA b).2
  have f2 := focus_twice s (drA b).1 (drA b).2
  have f3 := from_total s (drA b).1 (drA b).2
  have f4 : ∀ e ∈ entriesOf (mapP (fromG s) (drA b).1 (drA b).2).1 (mapP (fromG s) (drA b).1 (drA b).2).2, s.size < e.stack.size ∧ e.stack.extract 0 ((s.size : Int) + 1).toNat = s ++ ⟨#[58]⟩ := fun e he => cut_head (from_text he)
  have okA := pick_ok s true (drA b).1 (drA b).2
  generalize eA : mapP (pick s true) (drA b).1 (drA b).2 = A at *
  generalize eB : mapP (pick s false) (drA b).1 (drA b).2 = B at *
  generalize eD : mapP (fromG s) (drA b).1 (drA b).2 = D at *
  have hAB := mapP_sq (a := 784) (pick_fine s true) (pick_len s true) (N := B.1) (C := B.2) (by omega) (by omega)
  have hAA := mapP_sq (a := 784) (pick_fine s true) (pick_len s true) (N := A.1) (C := A.2) (by omega) (by omega)
  have nAB : ∀ n ∈ (mapP (pick s true) B.1 B.2).1, n.name.size ≤ 8 := profileOf_names _
  have nAA : ∀ n ∈ (mapP (pick s true) A.1 A.2).1, n.name.size ≤ 8 := profileOf_names _
  have okAA := pick_ok s true A.1 A.2
  have sm1 : sameP t (drA b) = true := by unfold sameP; rw [ft2, hok, ft3]; simp
  have sm2 : sameP (mapP (pick s true) A.1 A.2) A = true := by unfold sameP; rw [okAA, okA, f2]; simp
  generalize eAB : mapP (pick s true) B.1 B.2 = AB at *
  generalize eAA : mapP (pick s true) A.1 A.2 = AA at *
  have hlenD := entriesOf_len D.1 D.2
  generalize eE : entriesOf D.1 D.2 = E at *
  obtain ⟨A1, A2⟩ := A
  obtain ⟨B1, B2⟩ := B
  obtain ⟨D1, D2⟩ := D
  obtain ⟨t1, t2⟩ := t
  simp only at *
  (repeat' (first | refine WP.seq ?_ | refine WP.block ?_ | ((first | refine WP.region ?_ | refine WP.condW ?_ | refine WP.ret ?_ | refine WP.exit ?_ | refine WP.skip ?_); simp only [go_sem, hbig, hq, hqi, hrow, eA, eB, eD, eE, hmrg, tyAll, Nat.reduceAdd, Nat.reduceLT, Nat.reduceLeDiff, Nat.reduceEqDiff, Nat.reduceMul, Nat.reduceSub, Nat.reduceGT, reduceIte, Int.reduceNeg, Int.reduceToNat]) | ((first | refine WP.drawW 27 (by decide +kernel) (by kernel_rfl) ?_); simp only [go_sem, hbig, hq, hqi, hrow, eA, eB, eD, eE, hmrg, tyAll, Nat.reduceAdd, Nat.reduceLT, Nat.reduceLeDiff, Nat.reduceEqDiff, Nat.reduceMul, Nat.reduceSub, Nat.reduceGT, reduceIte, Int.reduceNeg, Int.reduceToNat]) |  refine And.intro ?_ ?_ | intro _))
  all_goals first | omega | (simp only; omega) | exact (hz' _ ‹_›).1 | exact (hz' _ ‹_›).2 | exact hnm' _ ‹_› | exact Nat.le_trans (nA _ ‹_›) (by omega) | exact Nat.le_trans (nB _ ‹_›) (by omega) | exact Nat.le_trans (nD _ ‹_›) (by omega) | exact wm.1 | exact wm.2 _ ‹_› | skip
  refine WP.loop (fun k : Nat => ⟨[(3, .ptr 3 0 0 0), (5, .v (.string s)), (6, .ptr 6 0 0 0), (7, .ptr 7 0 0 0), (8, .ptr 8 0 0 0), (9, .v (.bool true)), (10, .ptr 10 0 0 0), (11, .sl 2 (E.map encEntry)), (12, .v (.int .i64 k))],
    [(3, .box 29 [.sl 3 ((drA b).1.map encNode), .sl 1 ((drA b).2.map encI)]), (6, .box 29 [.sl 3 (A1.map encNode), .sl 1 (A2.map encI)]), (7, .box 29 [.sl 3 (B1.map encNode), .sl 1 (B2.map encI)]), (8, .box 29 [.sl 3 (t1.map encNode), .sl 1 (t2.map encI)]), (10, .box 29 [.sl 3 (D1.map encNode), .sl 1 (D2.map encI)])]⟩)
    (fun k => k ≤ E.length) (fun k => E.length - k) 0 (by simp) ?_ ?_
  · (simp only [go_sem, tyAll, Nat.reduceAdd, Nat.reduceLT, Nat.reduceLeDiff, Nat.reduceEqDiff, Nat.reduceMul, Nat.reduceSub, Nat.reduceGT, reduceIte, Int.reduceNeg, Int.reduceToNat] <;> (first | rfl | exact ⟨rfl, rfl⟩ | exact ⟨rfl, rfl, rfl⟩ | exact ⟨rfl, rfl, rfl, rfl⟩ | exact ⟨rfl, rfl, rfl, rfl, rfl⟩ | exact ⟨⟨rfl, rfl⟩, rfl⟩ | simp))
  intro k hk
  by_cases hlt : k < E.length
  · have hli : (k : Int) < E.length := by omega
    have h1 := rowAt_map encEntry E k hlt
    obtain ⟨g1, g2⟩ := f4 _ (List.getElem_mem hlt)
    have g3 : ¬ (E[k].stack.size : Int) ≤ s.size := by omega
    (repeat' (first | refine WP.seq ?_ | refine WP.block ?_ | ((first | refine WP.region ?_ | refine WP.condW ?_ | refine WP.ret ?_ | refine WP.exit ?_ | refine WP.skip ?_); simp only [go_sem, hli, h1, encEntry, g2, g3, tyAll, Nat.reduceAdd, Nat.reduceLT, Nat.reduceLeDiff, Nat.reduceEqDiff, Nat.reduceMul, Nat.reduceSub, Nat.reduceGT, reduceIte, Int.reduceNeg, Int.reduceToNat]) | ((first | refine WP.drawW 27 (by decide +kernel) (by kernel_rfl) ?_); simp only [go_sem, hli, h1, encEntry, g2, g3, tyAll, Nat.reduceAdd, Nat.reduceLT, Nat.reduceLeDiff, Nat.reduceEqDiff, Nat.reduceMul, Nat.reduceSub, Nat.reduceGT, reduceIte, Int.reduceNeg, Int.reduceToNat]) |  refine And.intro ?_ ?_ | intro _))
    all_goals first | omega | exact ⟨k + 1, by omega, by omega, by (first | rfl | exact ⟨rfl, rfl⟩ | exact ⟨rfl, rfl, rfl⟩ | exact ⟨rfl, rfl, rfl, rfl⟩ | exact ⟨rfl, rfl, rfl, rfl, rfl⟩ | exact ⟨⟨rfl, rfl⟩, rfl⟩ | simp)⟩ | (simp only [List.size_toArray, List.length_cons, List.length_nil]; omega) | skip
    all_goals trace_state
  · have hge : ¬ (k : Int) < E.length := by omega
    (repeat' (first | refine WP.seq ?_ | refine WP.block ?_ | ((first | refine WP.region ?_ | refine WP.condW ?_ | refine WP.ret ?_ | refine WP.exit ?_ | refine WP.skip ?_); simp only [go_sem, hge, eAB, eAA, sm1, sm2, f1, f3, tyAll, Nat.reduceAdd, Nat.reduceLT, Nat.reduceLeDiff, Nat.reduceEqDiff, Nat.reduceMul, Nat.reduceSub, Nat.reduceGT, reduceIte, Int.reduceNeg, Int.reduceToNat]) | ((first | refine WP.drawW 27 (by decide +kernel) (by kernel_rfl) ?_); simp only [go_sem, hge, eAB, eAA, sm1, sm2, f1, f3, tyAll, Nat.reduceAdd, Nat.reduceLT, Nat.reduceLeDiff, Nat.reduceEqDiff, Nat.reduceMul, Nat.reduceSub, Nat.reduceGT, reduceIte, Int.reduceNeg, Int.reduceToNat]) |  refine And.intro ?_ ?_ | intro _))
    all_goals first | omega | (simp only; omega) | exact hnm' _ ‹_› | exact Nat.le_trans (hnm _ ‹_›) (by omega) | exact Nat.le_trans (nA _ ‹_›) (by omega) | exact Nat.le_trans (nB _ ‹_›) (by omega) | exact Nat.le_trans (nD _ ‹_›) (by omega) | exact Nat.le_trans (htn _ ‹_›) (by omega) | exact Nat.le_trans (nAB _ ‹_›) (by omega) | exact Nat.le_trans (nAA _ ‹_›) (by omega) | rfl | skip
    all_goals trace_state
end
end
section
open Go.Vc
set_option linter.unusedSimpArgs false
set_option linter.unusedVariables false
set_option maxHeartbeats 1000000
set_option maxRecDepth 10000
attribute [local irreducible] Go.Vc.WP
attribute [local go_sem] cx0_t cx0_c
attribute [local go_sem] decNode_enc decFrame_enc oneFrame_enc stkA oneFrame_ab oneNode_abc decI_enc prA encI_inj
theorem szGo_neg : ∀ (l : List Nat) (r : Int), 0 ≤ r → szGo l r < 0 → szGo l r = -1
  | [], r, h, h2 => by unfold szGo at h2 ⊢; omega
  | n :: l, r, h, h2 => by
    unfold szGo at h2 ⊢
    split
    · rfl
    · rename_i h3
      rw [if_neg h3] at h2
      exact szGo_neg l _ (by omega) h2
theorem szGo_le1 : ∀ (l : List Nat) (r : Int), -1 ≤ r → szGo l r ≤ r
  | [], r, h => Int.le_refl _
  | n :: l, r, h => by
    unfold szGo
    split
    · omega
    · have := szGo_le1 l (r - n) (by omega)
      omega
theorem szvNode_neg {N : List Node} {l : Int} (h0 : 0 ≤ l) (h : szvNode N l < 0) : szvNode N l = -1 := by
  unfold szvNode at h ⊢
  split
  · rfl
  · rename_i h2
    rw [if_neg h2] at h
    exact szGo_neg _ _ (by omega) h
theorem szvNode_le {N : List Node} {l : Int} (h0 : 0 ≤ l) : szvNode N l ≤ l := by
  unfold szvNode
  split
  · omega
  · have := szGo_le1 (sizesNode N) (l - N.length) (by omega)
    omega
theorem szvNode_ok' {N : List Node} {l : Int} (hl : l ≤ 1048576) (h : ¬ szvNode N l < 0) : N.length ≤ 1048576 ∧ ∀ x ∈ N, x.name.size ≤ 1048576 := by
  unfold szvNode at h
  split at h
  · omega
  · rename_i h2
    refine ⟨by omega, fun x hx => ?_⟩
    have := szGo_ok (sizesNode N) _ (by omega) (Int.not_lt.1 h) x.name.size (List.mem_map.2 ⟨x, hx, rfl⟩)
    omega
def kszI : Ctr := pur (fun args => (decI (aR args 0), aI args 1)) (fun x => [.sl 1 (x.1.map encI), .v (.int .i64 x.2)]) (fun x => x.1.length ≤ maxLen ∧ 0 ≤ x.2 ∧ x.2 ≤ 1048576)
  (fun _ x => .v (.int .i64 (if x.2 - x.1.length < 0 then -1 else x.2 - x.1.length))) (fun _ _ => [])
section
noncomputable def cxSzI : Cx := { P := Tryz.prog, tys := tys, C := [], hty := tysOk, hC := COk.nil _ }
theorem cxSzI_t : cxSzI.tys = tys := rfl
theorem cxSzI_c : cxSzI.C = [] := rfl
attribute [local go_sem] cxSzI_t cxSzI_c 
theorem cszI : Cn Tryz.prog 99 kszI := by
  refine Cn.pur Tryz.func99 (by kernel_rfl) rfl fun d x hx => ?_
  obtain ⟨L, left⟩ := x
  obtain ⟨hL, h0, h1⟩ := hx
  simp only at hL h0 h1 ⊢
  have hm : maxLen = 9223372036854775807 := rfl
  refine Holds.go (c := cxSzI) Tryz.func99 rfl Tryz.results99 Tryz.ntmps99 (by omega) (by simp) rfl ?_
  intro X0 w0
  (repeat' (first | refine WP.seq ?_ | refine WP.block ?_ | ((first | refine WP.region ?_ | refine WP.condW ?_ | refine WP.ret ?_ | refine WP.exit ?_ | refine WP.skip ?_); simp only [go_sem, tyAll, Nat.reduceAdd, Nat.reduceLT, Nat.reduceLeDiff, Nat.reduceEqDiff, Nat.reduceMul, Nat.reduceSub, Nat.reduceGT, reduceIte, Int.reduceNeg, Int.reduceToNat]) |  refine And.intro ?_ ?_ | intro _))
  all_goals first | omega | skip
  · rename_i h; rw [if_pos h]
  · rename_i h; rw [if_neg (by omega)]
end
def kszStk : Ctr := pur (fun args => (stkA args 0, aI args 1)) (fun x => [.agg [.sl 3 (x.1.map encNode)], .v (.int .i64 x.2)]) (fun x => x.1.length ≤ maxLen ∧ (∀ r ∈ x.1, r.name.size ≤ maxLen) ∧ 0 ≤ x.2 ∧ x.2 ≤ 1048576)
  (fun _ x => .v (.int .i64 (szvNode x.1 x.2))) (fun _ _ => [])
section
noncomputable def cxSzStk : Cx := { P := Tryz.prog, tys := tys, C := [(147, kszNodeS)], hty := tysOk, hC := COk.cons cszNodeS (COk.nil _) }
theorem cxSzStk_t : cxSzStk.tys = tys := rfl
theorem cxSzStk_c : cxSzStk.C = [(147, kszNodeS)] := rfl
attribute [local go_sem] cxSzStk_t cxSzStk_c kszNodeS
theorem cszStk : Cn Tryz.prog 98 kszStk := by
  refine Cn.pur Tryz.func98 (by kernel_rfl) rfl fun d x hx => ?_
  obtain ⟨N, left⟩ := x
  obtain ⟨hN, hs, h0, h1⟩ := hx
  simp only at hN hs h0 h1 ⊢
  refine Holds.go (c := cxSzStk) Tryz.func98 rfl Tryz.results98 Tryz.ntmps98 (by omega) (by simp) rfl ?_
  intro X0 w0
  (repeat' (first | refine WP.seq ?_ | refine WP.block ?_ | ((first | refine WP.region ?_ | refine WP.condW ?_ | refine WP.ret ?_ | refine WP.exit ?_ | refine WP.skip ?_); simp only [go_sem, tyAll, Nat.reduceAdd, Nat.reduceLT, Nat.reduceLeDiff, Nat.reduceEqDiff, Nat.reduceMul, Nat.reduceSub, Nat.reduceGT, reduceIte, Int.reduceNeg, Int.reduceToNat]) |  refine And.intro ?_ ?_ | intro _))
  all_goals first | omega | exact hs _ ‹_› | skip
  · rename_i h; rw [szvNode_neg h0 h]
end
def szvPr (x : List Node × List Int) (l : Int) : Int := if szvNode x.1 l < 0 then -1 else if szvNode x.1 l - x.2.length < 0 then -1 else szvNode x.1 l - x.2.length
theorem szvPr_le {x : List Node × List Int} {l : Int} (h0 : 0 ≤ l) : szvPr x l ≤ l := by
  have := szvNode_le (N := x.1) h0
  unfold szvPr
  split
  · omega
  · split <;> omega
theorem szvPr_neg {x : List Node × List Int} {l : Int} (h : szvPr x l < 0) : szvPr x l = -1 := by
  unfold szvPr at h ⊢
  split
  · rfl
  · split
    · rfl
    · rename_i h1 h2; rw [if_neg h1, if_neg h2] at h; omega
theorem szvPr_ok {x : List Node × List Int} {l : Int} (hl : l ≤ 1048576) (h : ¬ szvPr x l < 0) : (x.1.length ≤ 1048576 ∧ ∀ n ∈ x.1, n.name.size ≤ 1048576) ∧ x.2.length ≤ 1048576 := by
  unfold szvPr at h
  split at h
  · omega
  · rename_i h1
    refine ⟨szvNode_ok' hl h1, ?_⟩
    split at h
    · omega
    · by_cases h0 : 0 ≤ l
      · have := szvNode_le (N := x.1) h0
        omega
      · exfalso
        apply h1
        unfold szvNode
        rw [if_pos (by omega)]; omega
def wfM (x : List Node × List Int) : Prop := x.1.length ≤ maxLen ∧ (∀ r ∈ x.1, r.name.size ≤ maxLen) ∧ x.2.length ≤ maxLen
def kszPr : Ctr := pur (fun args => (prA args 0, aI args 1)) (fun x => [.agg [.sl 3 (x.1.1.map encNode), .sl 1 (x.1.2.map encI)], .v (.int .i64 x.2)]) (fun x => wfM x.1 ∧ 0 ≤ x.2 ∧ x.2 ≤ 1048576)
  (fun _ x => .v (.int .i64 (szvPr x.1 x.2))) (fun _ _ => [])
section
noncomputable def cxSzPr : Cx := { P := Tryz.prog, tys := tys, C := [(98, kszStk), (99, kszI)], hty := tysOk, hC := COk.cons cszStk (COk.cons cszI (COk.nil _)) }
theorem cxSzPr_t : cxSzPr.tys = tys := rfl
theorem cxSzPr_c : cxSzPr.C = [(98, kszStk), (99, kszI)] := rfl
attribute [local go_sem] cxSzPr_t cxSzPr_c kszStk kszI
theorem cszPr : Cn Tryz.prog 41 kszPr := by
  refine Cn.pur Tryz.func41 (by kernel_rfl) rfl fun d x hx => ?_
  obtain ⟨⟨N, C⟩, left⟩ := x
  obtain ⟨⟨hN, hs, hC⟩, h0, h1⟩ := hx
  simp only at hN hs hC h0 h1 ⊢
  have hle := szvNode_le (N := N) h0
  refine Holds.go (c := cxSzPr) Tryz.func41 rfl Tryz.results41 Tryz.ntmps41 (by omega) (by simp) rfl ?_
  intro X0 w0
  (repeat' (first | refine WP.seq ?_ | refine WP.block ?_ | ((first | refine WP.region ?_ | refine WP.condW ?_ | refine WP.ret ?_ | refine WP.exit ?_ | refine WP.skip ?_); simp only [go_sem, tyAll, Nat.reduceAdd, Nat.reduceLT, Nat.reduceLeDiff, Nat.reduceEqDiff, Nat.reduceMul, Nat.reduceSub, Nat.reduceGT, reduceIte, Int.reduceNeg, Int.reduceToNat]) |  refine And.intro ?_ ?_ | intro _))
  all_goals first | omega | exact hs _ ‹_› | skip
  · rename_i h; rw [szvPr, if_pos h]
  · rename_i h g
    rw [szvPr, if_neg (Int.not_lt.2 h)]
    split
    · rfl
    · rename_i h5
      have h6 : ¬ (szvNode N left - (C.length : Int) < 0) := h5
      rw [if_neg h6] at g
      exact absurd g h6
  · rename_i h g
    rw [szvPr, if_neg (Int.not_lt.2 h)]
end
def ktoStk : Ctr := pur (fun args => stkA args 0) (fun N => [.agg [.sl 3 (N.map encNode)]]) (fun N => N.length ≤ 2097152) (fun d _ => .agg [.own d]) (fun d N => [(d, .sl 157 3 (N.map encNode))])
section
noncomputable def cxToStk : Cx := { P := Tryz.prog, tys := tys, C := [(148, ktoNodeS)], hty := tysOk, hC := COk.cons ctoNodeS (COk.nil _) }
theorem cxToStk_t : cxToStk.tys = tys := rfl
theorem cxToStk_c : cxToStk.C = [(148, ktoNodeS)] := rfl
attribute [local go_sem] cxToStk_t cxToStk_c ktoNodeS
theorem ctoStk : Cn Tryz.prog 100 ktoStk := by
  refine Cn.pur Tryz.func100 (by kernel_rfl) rfl fun d x hx => ?_
  refine Holds.go (c := cxToStk) Tryz.func100 rfl Tryz.results100 Tryz.ntmps100 (by omega) (by simp) rfl ?_
  intro X0 w0
  (repeat' (first | refine WP.seq ?_ | refine WP.block ?_ | ((first | refine WP.region ?_ | refine WP.condW ?_ | refine WP.ret ?_ | refine WP.exit ?_ | refine WP.skip ?_); simp only [go_sem, tyAll, Nat.reduceAdd, Nat.reduceLT, Nat.reduceLeDiff, Nat.reduceEqDiff, Nat.reduceMul, Nat.reduceSub, Nat.reduceGT, reduceIte, Int.reduceNeg, Int.reduceToNat]) |  refine And.intro ?_ ?_ | intro _))
  all_goals first | omega | exact ⟨_, _, _, rfl⟩ | exact ⟨_, _, rfl, _, _, rfl, rfl⟩ | skip
end
def ktoPr : Ctr := pur (fun args => prA args 0) (fun x => [.agg [.sl 3 (x.1.map encNode), .sl 1 (x.2.map encI)]]) (fun x => x.1.length ≤ 2097152 ∧ x.2.length ≤ 2097152) (fun d _ => .agg [.own d, .own (d + 1000)]) (fun d x => [(d, .sl 157 3 (x.1.map encNode)), (d + 1000, .sl 3 1 (x.2.map encI))])
section
noncomputable def cxToPr : Cx := { P := Tryz.prog, tys := tys, C := [(100, ktoStk), (101, k15)], hty := tysOk, hC := COk.cons ctoStk (COk.cons c15 (COk.nil _)) }
theorem cxToPr_t : cxToPr.tys = tys := rfl
theorem cxToPr_c : cxToPr.C = [(100, ktoStk), (101, k15)] := rfl
attribute [local go_sem] cxToPr_t cxToPr_c ktoStk k15
theorem ctoPr : Cn Tryz.prog 43 ktoPr := by
  refine Cn.pur Tryz.func43 (by kernel_rfl) rfl fun d x hx => ?_
  obtain ⟨N, C⟩ := x
  obtain ⟨hN, hC⟩ := hx
  simp only at hN hC ⊢
  refine Holds.go (c := cxToPr) Tryz.func43 rfl Tryz.results43 Tryz.ntmps43 (by omega) (by simp) rfl ?_
  intro X0 w0
  (repeat' (first | refine WP.seq ?_ | refine WP.block ?_ | ((first | refine WP.region ?_ | refine WP.condW ?_ | refine WP.ret ?_ | refine WP.exit ?_ | refine WP.skip ?_); simp only [go_sem, tyAll, Nat.reduceAdd, Nat.reduceLT, Nat.reduceLeDiff, Nat.reduceEqDiff, Nat.reduceMul, Nat.reduceSub, Nat.reduceGT, reduceIte, Int.reduceNeg, Int.reduceToNat]) |  refine And.intro ?_ ?_ | intro _))
  all_goals first | omega | exact ⟨_, _, _, rfl⟩ | exact ⟨_, _, rfl, _, _, rfl, rfl⟩ | (rw [if_neg (by omega)]) | skip
end
def keqStk : Ctr := pur (fun args => (stkA args 0, stkA args 1)) (fun x => [.agg [.sl 3 (x.1.map encNode)], .agg [.sl 3 (x.2.map encNode)]]) (fun x => x.1.length ≤ 4398046511104) (fun _ x => .v (.bool (decide (x.1 = x.2)))) (fun _ _ => [])
section
noncomputable def cxEqStk : Cx := { P := Tryz.prog, tys := tys, C := [(149, keqNodeS)], hty := tysOk, hC := COk.cons ceqNodeS (COk.nil _) }
theorem cxEqStk_t : cxEqStk.tys = tys := rfl
theorem cxEqStk_c : cxEqStk.C = [(149, keqNodeS)] := rfl
attribute [local go_sem] cxEqStk_t cxEqStk_c keqNodeS
theorem ceqStk : Cn Tryz.prog 102 keqStk := by
  refine Cn.pur Tryz.func102 (by kernel_rfl) rfl fun d x hx => ?_
  obtain ⟨N, M⟩ := x
  simp only at hx ⊢
  refine Holds.go (c := cxEqStk) Tryz.func102 rfl Tryz.results102 Tryz.ntmps102 (by omega) (by simp) rfl ?_
  intro X0 w0
  (repeat' (first | refine WP.seq ?_ | refine WP.block ?_ | ((first | refine WP.region ?_ | refine WP.condW ?_ | refine WP.ret ?_ | refine WP.exit ?_ | refine WP.skip ?_); simp only [go_sem, tyAll, Nat.reduceAdd, Nat.reduceLT, Nat.reduceLeDiff, Nat.reduceEqDiff, Nat.reduceMul, Nat.reduceSub, Nat.reduceGT, reduceIte, Int.reduceNeg, Int.reduceToNat]) |  refine And.intro ?_ ?_ | intro _))
  all_goals first | omega | simp_all | skip
end
def keqPr : Ctr := pur (fun args => (prA args 0, prA args 1)) (fun x => [.agg [.sl 3 (x.1.1.map encNode), .sl 1 (x.1.2.map encI)], .agg [.sl 3 (x.2.1.map encNode), .sl 1 (x.2.2.map encI)]]) (fun x => x.1.1.length ≤ 4398046511104 ∧ x.1.2.length ≤ 4398046511104)
  (fun _ x => .v (.bool (decide (x.1 = x.2)))) (fun _ _ => [])
section
noncomputable def cxEqPr : Cx := { P := Tryz.prog, tys := tys, C := [(102, keqStk), (103, k17)], hty := tysOk, hC := COk.cons ceqStk (COk.cons c17 (COk.nil _)) }
theorem cxEqPr_t : cxEqPr.tys = tys := rfl
theorem cxEqPr_c : cxEqPr.C = [(102, keqStk), (103, k17)] := rfl
attribute [local go_sem] cxEqPr_t cxEqPr_c keqStk k17
theorem ceqPr : Cn Tryz.prog 44 keqPr := by
  refine Cn.pur Tryz.func44 (by kernel_rfl) rfl fun d x hx => ?_
  obtain ⟨⟨N, C⟩, ⟨M, D⟩⟩ := x
  simp only at hx ⊢
  refine Holds.go (c := cxEqPr) Tryz.func44 rfl Tryz.results44 Tryz.ntmps44 (by omega) (by simp) rfl ?_
  intro X0 w0
  (repeat' (first | refine WP.seq ?_ | refine WP.block ?_ | ((first | refine WP.region ?_ | refine WP.condW ?_ | refine WP.ret ?_ | refine WP.exit ?_ | refine WP.skip ?_); simp only [go_sem, tyAll, Nat.reduceAdd, Nat.reduceLT, Nat.reduceLeDiff, Nat.reduceEqDiff, Nat.reduceMul, Nat.reduceSub, Nat.reduceGT, reduceIte, Int.reduceNeg, Int.reduceToNat]) |  refine And.intro ?_ ?_ | intro _))
  all_goals first | omega | simp_all | skip
end
end
end Go.Proofs.YtklcphbgaeiegaaGreatDoor
/-
  DERIVED. What is read of a struct, field by field, stands for what its fields stand for.
-/
namespace Go.Vc
open Go.RowKit Go.WideShapes Go.ChangeShapes Go.Deep
set_option linter.unusedVariables false
section
variable {H : Type} {enc : TypeId × Value → H} {P : Program} {w : World}
theorem Cells.append {r1 r2 : List SV} {c1 c2 : List Value} (h1 : Cells w r1 c1) (h2 : Cells w r2 c2) : Cells w (r1 ++ r2) (c1 ++ c2) := by
  refine ⟨by rw [List.length_append, List.length_append, h1.1, h2.1], fun k c u hc hu => ?_⟩
  rw [List.getElem?_append] at hc hu
  by_cases hk : k < r1.length
  · rw [if_pos hk] at hc
    rw [if_pos (by rw [← h1.1]; exact hk)] at hu
    exact h1.2 k c u hc hu
  · rw [if_neg hk] at hc
    rw [if_neg (by rw [← h1.1]; exact hk), ← h1.1] at hu
    exact h2.2 _ c u hc hu
theorem Dec.map {t : TypeId} {α β : Type} {e : α → List SV} {wf : α → Prop} {e' : β → List SV} {wf' : β → Prop} (hd : Dec H enc P w t e wf) (g : α → β) (he : ∀ a, e' (g a) = e a) (hw : ∀ a, wf a → wf' (g a)) : Dec H enc P w t e' wf' := by
  intro base sp held n cs y h
  obtain ⟨a, ha, hc⟩ := hd _ _ _ _ _ _ h
  exact ⟨g a, hw a ha, by rw [he]; exact hc⟩
theorem Dec.struct1 {t : TypeId} {f0 : Field} {k0 : Nat} {α : Type} {e : α → List SV} {wf : α → Prop} (ht : P.underlying t = some (.struct #[f0])) (o0 : f0.offset = 0) (h0 : P.cellsOf f0.type = k0) (hC : P.cellsOf t = k0) (hd : Dec H enc P w f0.type e wf) : Dec H enc P w t e wf := by
  intro base sp held n cs y h
  obtain ⟨y0, m, _, hl, g0⟩ := trod_struct1 ht h
  obtain ⟨a, ha, hc⟩ := hd _ _ _ _ _ _ g0
  rw [o0, h0, List.drop_zero, List.take_of_length_le (by omega)] at hc
  exact ⟨a, ha, hc⟩
theorem Dec.struct2 {t : TypeId} {f0 f1 : Field} {k0 k1 : Nat} {α β : Type} {e0 : α → List SV} {w0 : α → Prop} {e1 : β → List SV} {w1 : β → Prop} (ht : P.underlying t = some (.struct #[f0, f1])) (o0 : f0.offset = 0) (h0 : P.cellsOf f0.type = k0) (o1 : f1.offset = k0) (h1 : P.cellsOf f1.type = k1) (hC : P.cellsOf t = k0 + k1)
    (d0 : Dec H enc P w f0.type e0 w0) (d1 : Dec H enc P w f1.type e1 w1) : Dec H enc P w t (fun x : α × β => e0 x.1 ++ e1 x.2) (fun x => w0 x.1 ∧ w1 x.2) := by
  intro base sp held n cs y h
  obtain ⟨y0, y1, m, _, hl, g0, g1⟩ := trod_struct2 ht h
  obtain ⟨a, ha, hc⟩ := d0 _ _ _ _ _ _ g0
  obtain ⟨b, hb, hd⟩ := d1 _ _ _ _ _ _ g1
  rw [o0, h0, List.drop_zero] at hc
  rw [o1, h1, List.take_of_length_le (by rw [List.length_drop]; omega)] at hd
  refine ⟨(a, b), ⟨ha, hb⟩, ?_⟩
  have := hc.append hd
  rwa [List.take_append_drop] at this
theorem Dec.struct3 {t : TypeId} {f0 f1 f2 : Field} {k0 k1 k2 : Nat} {α β γ : Type} {e0 : α → List SV} {w0 : α → Prop} {e1 : β → List SV} {w1 : β → Prop} {e2 : γ → List SV} {w2 : γ → Prop} (ht : P.underlying t = some (.struct #[f0, f1, f2])) (o0 : f0.offset = 0) (h0 : P.cellsOf f0.type = k0) (o1 : f1.offset = k0) (h1 : P.cellsOf f1.type = k1) (o2 : f2.offset = k0 + k1) (h2 : P.cellsOf f2.type = k2) (hC : P.cellsOf t = k0 + k1 + k2)
    (d0 : Dec H enc P w f0.type e0 w0) (d1 : Dec H enc P w f1.type e1 w1) (d2 : Dec H enc P w f2.type e2 w2) : Dec H enc P w t (fun x : α × β × γ => e0 x.1 ++ (e1 x.2.1 ++ e2 x.2.2)) (fun x => w0 x.1 ∧ w1 x.2.1 ∧ w2 x.2.2) := by
  intro base sp held n cs y h
  obtain ⟨y0, y1, y2, m, _, hl, g0, g1, g2⟩ := trod_struct3 ht h
  obtain ⟨a, ha, hc⟩ := d0 _ _ _ _ _ _ g0
  obtain ⟨b, hb, hd⟩ := d1 _ _ _ _ _ _ g1
  obtain ⟨c, hc', he⟩ := d2 _ _ _ _ _ _ g2
  rw [o0, h0, List.drop_zero] at hc
  rw [o1, h1] at hd
  rw [o2, h2, List.take_of_length_le (by rw [List.length_drop]; omega), ← List.drop_drop] at he
  refine ⟨(a, b, c), ⟨ha, hb, hc'⟩, ?_⟩
  have := hc.append (hd.append he)
  rwa [List.take_append_drop, List.take_append_drop] at this
end
end Go.Vc

/-
  DERIVED. What is read of stacks and of a profile.
-/
namespace Go.Proofs.YtklcphbgaeiegaaGreatDoor
open Go.Vc Go.RowKit Go.WideShapes Go.ChangeShapes Go.Deep
section
variable {H : Type} {enc : TypeId × Value → H} {w : World}
def okN (L : List Node) : Prop := L.length ≤ maxLen ∧ ∀ x ∈ L, x.name.size ≤ maxLen
theorem rowNode' : Dec H enc Tryz.prog w 182 encNode (fun x => x.name.size ≤ maxLen) :=
  (Dec.struct2 (k0 := 1) (k1 := 2) Tryz.underlying182 rfl (by kernel_rfl) rfl (by kernel_rfl) (by kernel_rfl) (Dec.int Tryz.underlying3) rowFrame).map (fun x : Int × Frame => (⟨x.1, x.2.name, x.2.line⟩ : Node)) (fun _ => rfl) (fun _ h => h.2.1)
theorem rowStk : Dec H enc Tryz.prog w 70 (fun N : List Node => [.sl 3 (N.map encNode)]) okN :=
  Dec.struct1 (k0 := 1) Tryz.underlying70 rfl (by kernel_rfl) (by kernel_rfl) (Dec.slice (s := 3) Tryz.underlying68 (by kernel_rfl) (by omega) rowNode' (fun _ => rfl))
theorem rowPr : Dec H enc Tryz.prog w 72 (fun x : List Node × List Int => [.sl 3 (x.1.map encNode), .sl 1 (x.2.map encI)]) wfM :=
  (Dec.struct2 (k0 := 1) (k1 := 1) Tryz.underlying72 rfl (by kernel_rfl) rfl (by kernel_rfl) (by kernel_rfl) rowStk
    (Dec.slice (s := 1) Tryz.underlying27 (by kernel_rfl) (by omega) (Dec.int Tryz.underlying3) (fun _ => rfl))).map (fun x : List Node × List Int => x) (fun _ => rfl) (fun _ h => ⟨h.1.1, h.1.2, h.2.1⟩)
end
end Go.Proofs.YtklcphbgaeiegaaGreatDoor

