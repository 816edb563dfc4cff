/-
  DERIVED. Several texts of ours in one: VtFocusedL, VcDel, VtDelF, VtHide, VtHiddenL, VtPrL, VcY, VtPrR.
-/
import Derived.Test.YtklcphbgaeiegaaGreatDoorVq0
import Derived.Test.YtklcphbgaeiegaaGreatDoorVq1
import Derived.Test.YtklcphbgaeiegaaGreatDoorVq2
import Derived.Test.YtklcphbgaeiegaaGreatDoorVq3
import Derived.Test.YtklcphbgaeiegaaGreatDoorVq4
import Derived.Test.YtklcphbgaeiegaaGreatDoorVq5
import Derived.Test.YtklcphbgaeiegaaGreatDoorVq6
import Derived.Test.YtklcphbgaeiegaaGreatDoorVq7
import Derived.Test.YtklcphbgaeiegaaGreatDoorVq8
import Derived.Test.YtklcphbgaeiegaaGreatDoorVq9
import Derived.Test.YtklcphbgaeiegaaGreatDoorVl10
import Derived.Deep.Strs
import Derived.Lib.SmallJoins
set_option linter.unusedSimpArgs false
set_option linter.unusedVariables false
namespace Go.Proofs.YtklcphbgaeiegaaGreatDoor
open Go.Vc
attribute [local go_sem] St.runR St.runW St.stepV offV St.step St.stepU St.stepG mkCond guardB St.prK St.pr St.prLen St.eff St.callE St.callD St.callF St.callL aI aB aS aR aC St.isM St.argL Ctr.pure Ctr.lend Ctr.move Ctr.isL Ctr.wri pur len lentBy St.lentV St.lent1 nthS argsR restOf obsR pairs swapL unObs backL St.resL erL SV.ren1 SV.up SV.up2 Ob.up St.fzL cellIds partIds St.intoRow SV.ownId St.fz SV.fz1 St.prep St.mvL St.mv SV.re1 rnOk St.prEq vals eqCells scEq Value.kd St.prStr St.prCut cutR St.bnd St.prMin St.bld isShift outL retL outJ oR oC St.ev St.get St.put St.new St.kill SV.kill SV.kill1 Ob.kill St.app St.wrt St.rowsOf St.res St.killL lk er argsL SV.strip SV.need SV.share SV.share1 SV.owns SV.owns1 SV.owns2 SV.good SV.good1 SV.rok SV.rok1 SV.rok2 SV.isV SV.isV2 nodupN SV.cells SV.one SV.pur Ob.pb partsIn rowsIn splice cellsAt dstOk scal2 scal1 thenK blockK retK outK outs okC okL okA okT nilC nilL nilA nilT keepC keepL keepA keepT St.runG St.dltK St.least St.clean St.final St.hide offK badS badO SV.refs SV.leaf SV.leaf2 Ob.refs dlOk fpAt Go.Vc.cover tups SV.ofAgg St.out outC subL St.has rng wr Value.oneCell' Option.isSome_some Option.isSome_none List.nil_append Bool.false_eq_true List.map_cons List.map_nil List.all_cons List.all_nil List.length_cons List.length_nil List.drop_zero List.drop_succ_cons List.take_succ_cons List.take_zero List.drop_nil List.take_nil List.getElem?_cons_zero List.getElem?_cons_succ List.getElem?_nil List.cons_append List.nil_append List.append_nil List.append_assoc List.flatMap_cons List.flatMap_nil List.contains_cons List.contains_nil List.set_cons_zero List.set_cons_succ List.getElem?_toArray Option.getD_some Option.getD_none Option.map_some Option.map_none Option.bind_some Option.some.injEq Prod.mk.injEq if_true if_false true_and and_true and_self and_false false_and Bool.and_false Bool.false_and Bool.or_true Bool.true_or Bool.or_false Bool.false_or ne_eq not_true_eq_false not_false_eq_true decide_true decide_false List.mem_cons List.not_mem_nil List.filter_cons List.filter_nil List.any_cons List.any_nil List.isEmpty_nil List.isEmpty_cons Option.getD_none or_false false_or true_or or_true forall_eq_or_imp forall_eq reduceCtorEq exists_eq exists_eq' exists_eq_left' exists_eq_left exists_eq_right exists_eq_right' imp_self implies_true Bool.and_true Bool.true_and Bool.and_self beq_self_eq_true List.replicate_succ List.replicate_zero forall_const false_implies pickB_or pickB_and beqT beqF Int.toNat_natCast List.length_map List.length_replicate ge_iff_le gt_iff_lt decide_eq_true_eq decide_eq_false_iff_not Bool.and_eq_true Bool.or_eq_true Bool.not_eq_true' Bool.not_eq_false' condG List.toList_toArray Bool.or_eq_false_iff Bool.and_eq_false_iff Int.not_lt Int.not_le beq_iff_eq beq_eq_false_iff_ne bne_iff_ne bne_eq_false_iff_eq ne_eq Bool.not_true Bool.not_false exists_and_left
section
open Go.Vc
set_option linter.unusedSimpArgs false
set_option linter.unusedVariables false
set_option maxHeartbeats 1000000
set_option maxRecDepth 10000
attribute [local irreducible] Go.Vc.WP
attribute [local go_sem] cx0_t cx0_c
open Go.Pl
attribute [local go_sem] isV_Node isV_It isV_Entry decNode_enc decFrame_enc oneFrame_enc stkA oneFrame_ab oneNode_abc decI_enc prA encI_inj decEntry_enc decU_enc
def kFocZ : Ctr := pur (fun args => (prA args 0, aS args 1)) (fun x => [.agg [.sl 3 (x.1.1.map encNode), .sl 1 (x.1.2.map encI)], .v (.string x.2)])
  (fun x => (x.1.1.length ≤ 1048576 ∧ ∀ n ∈ x.1.1, n.name.size ≤ 1048576) ∧ x.1.2.length ≤ 1048576) (fun _ x => .agg [.sl 3 ((mapP (pick x.2 true) x.1.1 x.1.2).1.map encNode), .sl 1 ((mapP (pick x.2 true) x.1.1 x.1.2).2.map encI)]) (fun _ _ => [])
theorem cFocZ : Cn Tryz.prog 31 kFocZ := Cn.frozenA (fun x => allV_Node _) (fun x => allV_I _) cFocusOnI
def kIgnZ : Ctr := pur (fun args => (prA args 0, aS args 1)) (fun x => [.agg [.sl 3 (x.1.1.map encNode), .sl 1 (x.1.2.map encI)], .v (.string x.2)])
  (fun x => (x.1.1.length ≤ 1048576 ∧ ∀ n ∈ x.1.1, n.name.size ≤ 1048576) ∧ x.1.2.length ≤ 1048576) (fun _ x => .agg [.sl 3 ((mapP (pick x.2 false) x.1.1 x.1.2).1.map encNode), .sl 1 ((mapP (pick x.2 false) x.1.1 x.1.2).2.map encI)]) (fun _ _ => [])
theorem cIgnZ : Cn Tryz.prog 32 kIgnZ := Cn.frozenA (fun x => allV_Node _) (fun x => allV_I _) cIgnoreI
def kFroZ : Ctr := pur (fun args => (prA args 0, aS args 1)) (fun x => [.agg [.sl 3 (x.1.1.map encNode), .sl 1 (x.1.2.map encI)], .v (.string x.2)])
  (fun x => (x.1.1.length ≤ 1048576 ∧ ∀ n ∈ x.1.1, n.name.size ≤ 1048576) ∧ x.1.2.length ≤ 1048576) (fun _ x => .agg [.sl 3 ((mapP (fromG x.2) x.1.1 x.1.2).1.map encNode), .sl 1 ((mapP (fromG x.2) x.1.1 x.1.2).2.map encI)]) (fun _ _ => [])
theorem cFroZ : Cn Tryz.prog 34 kFroZ := Cn.frozenA (fun x => allV_Node _) (fun x => allV_I _) cFromOnI
theorem mapP_sq {g : List Frame → List Frame} (hg : Fine g) (hl : ∀ L, (g L).length ≤ L.length) {N : List Node} {C : List Int} {a : Nat} (hN : N.length ≤ a) (hC : C.length ≤ a) : (mapP g N C).1.length ≤ a * a ∧ (mapP g N C).2.length ≤ a * a := by
  unfold mapP
  have h1 := entriesOf_len N C
  have h2 := List.length_filterMap_le (mapG g) (entriesOf N C)
  have hm : a * ((entriesOf N C).filterMap (mapG g)).length ≤ a * a := Nat.mul_le_mul_left _ (by omega)
  cases hp : profileOf ((entriesOf N C).filterMap (mapG g)) with
  | none => simp
  | some t =>
    have h3 := profGo_len (B := a) ((entriesOf N C).filterMap (mapG g)) ([], []) 0 (fun e he f hf => by
      obtain ⟨x, hx, hmx⟩ := List.mem_filterMap.1 he
      obtain ⟨_, h4, _, _, h5, _⟩ := mapG_frs hg hx hmx
      rw [h5] at hf; cases hf
      rw [h4]
      have h6 := hl (frsE x)
      have h7 := (ent_frs hx).2.2.2.1
      omega) (by simp) (by simp) t hp
    simp only [Option.getD_some]
    omega
def nmF (a : Nat) : ByteArray := match a with
  | 0 => ⟨#[109, 97, 105, 110]⟩
  | 1 => ⟨#[102]⟩
  | 2 => ⟨#[103, 103]⟩
  | _ => ⟨#[104]⟩
theorem row_nmF {q : Nat} (h : q < 4) : Go.Vc.rowAt [[SV.v (Value.string ⟨#[109, 97, 105, 110]⟩)], [SV.v (Value.string ⟨#[102]⟩)], [SV.v (Value.string ⟨#[103, 103]⟩)], [SV.v (Value.string ⟨#[104]⟩)]] q = [SV.v (Value.string (nmF q))] := by
  match q, h with
  | 0, _ => rfl
  | 1, _ => rfl
  | 2, _ => rfl
  | 3, _ => rfl
theorem nmF_size (q : Nat) : (nmF q).size ≤ 4 := by
  unfold nmF
  split <;> decide
theorem wf_merge {N : List Node} {C : List Int} (hN : N.length ≤ 28) (hC : C.length ≤ 28) (s : ByteArray) :
    wfE (entriesOf (mapP (pick s true) N C).1 (mapP (pick s true) N C).2 ++ entriesOf (mapP (pick s false) N C).1 (mapP (pick s false) N C).2) ∧
    ((mrgP (mapP (pick s true) N C) (mapP (pick s false) N C)).getD ([], [])).1.length ≤ 1048576 ∧ ((mrgP (mapP (pick s true) N C) (mapP (pick s false) N C)).getD ([], [])).2.length ≤ 1048576 := by
  have h1 := entriesOf_len N C
  have h2 := List.length_filter_le (keepS s true) (entriesOf N C)
  have h3 := List.length_filter_le (keepS s false) (entriesOf N C)
  have hin : ∀ e ∈ entriesOf (mapP (pick s true) N C).1 (mapP (pick s true) N C).2 ++ entriesOf (mapP (pick s false) N C).1 (mapP (pick s false) N C).2, e ∈ entriesOf N C := by
    rw [pick_back, pick_back]
    intro e he
    rcases List.mem_append.1 he with h | h
    · exact (List.mem_filter.1 h).1
    · exact (List.mem_filter.1 h).1
  have hlen : (entriesOf (mapP (pick s true) N C).1 (mapP (pick s true) N C).2 ++ entriesOf (mapP (pick s false) N C).1 (mapP (pick s false) N C).2).length ≤ 56 := by
    rw [pick_back, pick_back, List.length_append]; omega
  refine ⟨⟨by omega, fun e he => ?_⟩, ?_⟩
  · have := entriesOf_size (hin e he); omega
  · have e : mrgP (mapP (pick s true) N C) (mapP (pick s false) N C) = profileOf (entriesOf (mapP (pick s true) N C).1 (mapP (pick s true) N C).2 ++ entriesOf (mapP (pick s false) N C).1 (mapP (pick s false) N C).2) := if_pos ⟨pick_ok s true N C, pick_ok s false N C⟩
    rw [e]
    generalize entriesOf (mapP (pick s true) N C).1 (mapP (pick s true) N C).2 ++ entriesOf (mapP (pick s false) N C).1 (mapP (pick s false) N C).2 = L at hin hlen
    cases hp : profileOf L with
    | none => simp
    | some t =>
      have h4 := profGo_len (B := 28) L ([], []) 0 (fun e he f hf => by
        obtain ⟨_, _, _, h5, h6⟩ := ent_frs (hin e he)
        rw [h6] at hf; cases hf
        omega) (by simp) (by simp) t hp
      simp only [Option.getD_some]
      omega
theorem cut_head {e s : ByteArray} (h : ∃ R, e = bts (s.data.toList ++ 58 :: R)) : s.size < e.size ∧ e.extract 0 ((s.size : Int) + 1).toNat = s ++ ⟨#[58]⟩ := by
  obtain ⟨R, rfl⟩ := h
  have hs : s.data.toList.length = s.size := by rw [Array.length_toList]; rfl
  have h1 : (bts (s.data.toList ++ 58 :: R)).size = s.size + 1 + R.length := by
    show (s.data.toList ++ 58 :: R).toArray.size = _
    rw [List.size_toArray, List.length_append, hs, List.length_cons]; omega
  refine ⟨by omega, ?_⟩
  rw [show ((s.size : Int) + 1).toNat = s.size + 1 by omega]
  apply ByteArray.ext
  apply Array.toList_inj.1
  rw [ByteArray.data_extract, Array.toList_extract, ByteArray.data_append, Array.toList_append]
  show (List.extract (s.data.toList ++ 58 :: R) 0 (s.size + 1)) = _
  simp only [List.extract, Nat.sub_zero, List.drop_zero]
  rw [List.take_append, hs, List.take_of_length_le (by omega), show s.size + 1 - s.size = 1 by omega]
  rfl
section
noncomputable def cxLFocd : Cx := { P := Tryz.prog, tys := tys, C := [(12, kBig), (30, kAt), (13, kDrawZ), (31, kFocZ), (32, kIgnZ), (34, kFroZ), (33, kMrgZ), (35, kEntZ), (36, kSame), (15, kTotal)], hty := tysOk, hC := COk.cons cBig (COk.cons cAt (COk.cons cDrawZ (COk.cons cFocZ (COk.cons cIgnZ (COk.cons cFroZ (COk.cons cMrgZ (COk.cons cEntZS (COk.cons cSame (COk.cons cTotalS (COk.nil _)))))))))) }
theorem cxLFocd_t : cxLFocd.tys = tys := rfl
theorem cxLFocd_c : cxLFocd.C = [(12, kBig), (30, kAt), (13, kDrawZ), (31, kFocZ), (32, kIgnZ), (34, kFroZ), (33, kMrgZ), (35, kEntZ), (36, kSame), (15, kTotal)] := rfl
attribute [local go_sem] cxLFocd_t cxLFocd_c kBig kAt kDrawZ kFocZ kIgnZ kFroZ kMrgZ kEntZ kSame kTotal
theorem lawFocused (b : List Int) (hb : b.length ≤ maxLen) (hz : ∀ z ∈ b, IntKind.u8.min ≤ z ∧ z ≤ IntKind.u8.max) : Holds Tryz.prog 7 [.sl 1 (b.map encU)] (.v (.bool true)) [] := by
  have hm : maxLen = 9223372036854775807 := rfl
  have hz' : ∀ z ∈ b, 0 ≤ z ∧ z ≤ 255 := fun z h => hz z h
  refine Holds.go (c := cxLFocd) Tryz.func7 rfl Tryz.results7 Tryz.ntmps7 (by omega) (by simp) rfl ?_
  intro X0 w0
  by_cases hbig : 1048576 < (b.length : Int)
  · (repeat' (first | refine WP.seq ?_ | refine WP.block ?_ | ((first | refine WP.region ?_ | refine WP.condW ?_ | refine WP.ret ?_ | refine WP.exit ?_ | refine WP.skip ?_); simp only [go_sem, hbig, tyAll, Nat.reduceAdd, Nat.reduceLT, Nat.reduceLeDiff, Nat.reduceEqDiff, Nat.reduceMul, Nat.reduceSub, Nat.reduceGT, reduceIte, Int.reduceNeg, Int.reduceToNat]) | ((first | refine WP.drawW 27 (by decide +kernel) (by kernel_rfl) ?_); simp only [go_sem, hbig, tyAll, Nat.reduceAdd, Nat.reduceLT, Nat.reduceLeDiff, Nat.reduceEqDiff, Nat.reduceMul, Nat.reduceSub, Nat.reduceGT, reduceIte, Int.reduceNeg, Int.reduceToNat]) |  refine And.intro ?_ ?_ | intro _))
    all_goals first | omega | skip
    all_goals trace_state
  have hb1 : b.length ≤ 1048576 := by omega
  have hdr := drA_ok hb1 hz'
  have hnm := drp_names hdr
  have hok := hdr.ok
  obtain ⟨hl1, hl2⟩ := drp_lens hdr
  have hat := atV_bd hz' 0
  have hq0 : 0 ≤ (atV b 0).tmod 4 := Int.tmod_nonneg _ hat.1
  have hq1 : (atV b 0).tmod 4 < 4 := Int.tmod_lt_of_pos _ (by omega)
  obtain ⟨q, hq⟩ : ∃ q : Nat, (atV b 0).tmod 4 = q := ⟨_, (Int.toNat_of_nonneg hq0).symm⟩
  have hq4 : q < 4 := by omega
  have hqi : (q : Int) < 4 := by omega
  have hrow := row_nmF hq4
  have hsz := nmF_size q
  generalize nmF q = s at hrow hsz
  have hw1 : (drA b).1.length ≤ 1048576 := by omega
  have hw2 : (drA b).2.length ≤ 1048576 := by omega
  have hnm' : ∀ n ∈ (drA b).1, n.name.size ≤ 1048576 := fun n hn => Nat.le_trans (hnm n hn) (by omega)
  obtain ⟨wm, wm1, wm2⟩ := wf_merge (N := (drA b).1) (C := (drA b).2) (by omega) (by omega) s
  obtain ⟨t, ft1, ft2, ft3⟩ := focus_merge (N := (drA b).1) (C := (drA b).2) s
  have hmrg : mrgP (mapP (pick s true) (drA b).1 (drA b).2) (mapP (pick s false) (drA b).1 (drA b).2) = some t := by
    unfold mrgP
    rw [if_pos ⟨pick_ok s true _ _, pick_ok s false _ _⟩]; exact ft1
  rw [hmrg] at wm1 wm2
  simp only [Option.getD_some] at wm1 wm2
  have htn : ∀ n ∈ t.1, n.name.size ≤ 8 := by
    have := profileOf_names (entriesOf (mapP (pick s true) (drA b).1 (drA b).2).1 (mapP (pick s true) (drA b).1 (drA b).2).2 ++ entriesOf (mapP (pick s false) (drA b).1 (drA b).2).1 (mapP (pick s false) (drA b).1 (drA b).2).2)
    rw [ft1] at this; exact this
  have hA := mapP_sq (a := 28) (pick_fine s true) (pick_len s true) (N := (drA b).1) (C := (drA b).2) (by omega) (by omega)
  have hB := mapP_sq (a := 28) (pick_fine s false) (pick_len s false) (N := (drA b).1) (C := (drA b).2) (by omega) (by omega)
  have hD := mapP_sq (a := 28) (fromG_fine s) (fromG_len s) (N := (drA b).1) (C := (drA b).2) (by omega) (by omega)
  have nA : ∀ n ∈ (mapP (pick s true) (drA b).1 (drA b).2).1, n.name.size ≤ 8 := profileOf_names _
  have nB : ∀ n ∈ (mapP (pick s false) (drA b).1 (drA b).2).1, n.name.size ≤ 8 := profileOf_names _
  have nD : ∀ n ∈ (mapP (fromG s) (drA b).1 (drA b).2).1, n.name.size ≤ 8 := profileOf_names _
  have f1 := focus_none s (drA b).1 (drA b).2
  have f2 := focus_twice s (drA b).1 (drA b).2
  have f3 := from_total s (drA b).1 (drA b).2
  have f4 : ∀ e ∈ entriesOf (mapP (fromG s) (drA b).1 (drA b).2).1 (mapP (fromG s) (drA b).1 (drA b).2).2, s.size < e.stack.size ∧ e.stack.extract 0 ((s.size : Int) + 1).toNat = s ++ ⟨#[58]⟩ := fun e he => cut_head (from_text he)
  have okA := pick_ok s true (drA b).1 (drA b).2
  generalize eA : mapP (pick s true) (drA b).1 (drA b).2 = A at *
  generalize eB : mapP (pick s false) (drA b).1 (drA b).2 = B at *
  generalize eD : mapP (fromG s) (drA b).1 (drA b).2 = D at *
  have hAB := mapP_sq (a := 784) (pick_fine s true) (pick_len s true) (N := B.1) (C := B.2) (by omega) (by omega)
  have hAA := mapP_sq (a := 784) (pick_fine s true) (pick_len s true) (N := A.1) (C := A.2) (by omega) (by omega)
  have nAB : ∀ n ∈ (mapP (pick s true) B.1 B.2).1, n.name.size ≤ 8 := profileOf_names _
  have nAA : ∀ n ∈ (mapP (pick s true) A.1 A.2).1, n.name.size ≤ 8 := profileOf_names _
  have okAA := pick_ok s true A.1 A.2
  have sm1 : sameP t (drA b) = true := by unfold sameP; rw [ft2, hok, ft3]; simp
  have sm2 : sameP (mapP (pick s true) A.1 A.2) A = true := by unfold sameP; rw [okAA, okA, f2]; simp
  generalize eAB : mapP (pick s true) B.1 B.2 = AB at *
  generalize eAA : mapP (pick s true) A.1 A.2 = AA at *
  have hlenD := entriesOf_len D.1 D.2
  generalize eE : entriesOf D.1 D.2 = E at *
  obtain ⟨A1, A2⟩ := A
  obtain ⟨B1, B2⟩ := B
  obtain ⟨D1, D2⟩ := D
  obtain ⟨t1, t2⟩ := t
  simp only at *
  (repeat' (first | refine WP.seq ?_ | refine WP.block ?_ | ((first | refine WP.region ?_ | refine WP.condW ?_ | refine WP.ret ?_ | refine WP.exit ?_ | refine WP.skip ?_); simp only [go_sem, hbig, hq, hqi, hrow, eA, eB, eD, eE, hmrg, tyAll, Nat.reduceAdd, Nat.reduceLT, Nat.reduceLeDiff, Nat.reduceEqDiff, Nat.reduceMul, Nat.reduceSub, Nat.reduceGT, reduceIte, Int.reduceNeg, Int.reduceToNat]) | ((first | refine WP.drawW 27 (by decide +kernel) (by kernel_rfl) ?_); simp only [go_sem, hbig, hq, hqi, hrow, eA, eB, eD, eE, hmrg, tyAll, Nat.reduceAdd, Nat.reduceLT, Nat.reduceLeDiff, Nat.reduceEqDiff, Nat.reduceMul, Nat.reduceSub, Nat.reduceGT, reduceIte, Int.reduceNeg, Int.reduceToNat]) |  refine And.intro ?_ ?_ | intro _))
  all_goals first | omega | (simp only; omega) | exact (hz' _ ‹_›).1 | exact (hz' _ ‹_›).2 | exact hnm' _ ‹_› | exact Nat.le_trans (nA _ ‹_›) (by omega) | exact Nat.le_trans (nB _ ‹_›) (by omega) | exact Nat.le_trans (nD _ ‹_›) (by omega) | exact wm.1 | exact wm.2 _ ‹_› | skip
  refine WP.loop (fun k : Nat => ⟨[(3, .ptr 3 0 0 0), (5, .v (.string s)), (6, .ptr 6 0 0 0), (7, .ptr 7 0 0 0), (8, .ptr 8 0 0 0), (9, .v (.bool true)), (10, .ptr 10 0 0 0), (11, .sl 2 (E.map encEntry)), (12, .v (.int .i64 k))],
    [(3, .box 29 [.sl 3 ((drA b).1.map encNode), .sl 1 ((drA b).2.map encI)]), (6, .box 29 [.sl 3 (A1.map encNode), .sl 1 (A2.map encI)]), (7, .box 29 [.sl 3 (B1.map encNode), .sl 1 (B2.map encI)]), (8, .box 29 [.sl 3 (t1.map encNode), .sl 1 (t2.map encI)]), (10, .box 29 [.sl 3 (D1.map encNode), .sl 1 (D2.map encI)])]⟩)
    (fun k => k ≤ E.length) (fun k => E.length - k) 0 (by simp) ?_ ?_
  · (simp only [go_sem, tyAll, Nat.reduceAdd, Nat.reduceLT, Nat.reduceLeDiff, Nat.reduceEqDiff, Nat.reduceMul, Nat.reduceSub, Nat.reduceGT, reduceIte, Int.reduceNeg, Int.reduceToNat] <;> (first | rfl | exact ⟨rfl, rfl⟩ | exact ⟨rfl, rfl, rfl⟩ | exact ⟨rfl, rfl, rfl, rfl⟩ | exact ⟨rfl, rfl, rfl, rfl, rfl⟩ | exact ⟨⟨rfl, rfl⟩, rfl⟩ | simp))
  intro k hk
  by_cases hlt : k < E.length
  · have hli : (k : Int) < E.length := by omega
    have h1 := rowAt_map encEntry E k hlt
    obtain ⟨g1, g2⟩ := f4 _ (List.getElem_mem hlt)
    have g3 : ¬ (E[k].stack.size : Int) ≤ s.size := by omega
    (repeat' (first | refine WP.seq ?_ | refine WP.block ?_ | ((first | refine WP.region ?_ | refine WP.condW ?_ | refine WP.ret ?_ | refine WP.exit ?_ | refine WP.skip ?_); simp only [go_sem, hli, h1, encEntry, g2, g3, tyAll, Nat.reduceAdd, Nat.reduceLT, Nat.reduceLeDiff, Nat.reduceEqDiff, Nat.reduceMul, Nat.reduceSub, Nat.reduceGT, reduceIte, Int.reduceNeg, Int.reduceToNat]) | ((first | refine WP.drawW 27 (by decide +kernel) (by kernel_rfl) ?_); simp only [go_sem, hli, h1, encEntry, g2, g3, tyAll, Nat.reduceAdd, Nat.reduceLT, Nat.reduceLeDiff, Nat.reduceEqDiff, Nat.reduceMul, Nat.reduceSub, Nat.reduceGT, reduceIte, Int.reduceNeg, Int.reduceToNat]) |  refine And.intro ?_ ?_ | intro _))
    all_goals first | omega | exact ⟨k + 1, by omega, by omega, by (first | rfl | exact ⟨rfl, rfl⟩ | exact ⟨rfl, rfl, rfl⟩ | exact ⟨rfl, rfl, rfl, rfl⟩ | exact ⟨rfl, rfl, rfl, rfl, rfl⟩ | exact ⟨⟨rfl, rfl⟩, rfl⟩ | simp)⟩ | (simp only [List.size_toArray, List.length_cons, List.length_nil]; omega) | skip
    all_goals trace_state
  · have hge : ¬ (k : Int) < E.length := by omega
    (repeat' (first | refine WP.seq ?_ | refine WP.block ?_ | ((first | refine WP.region ?_ | refine WP.condW ?_ | refine WP.ret ?_ | refine WP.exit ?_ | refine WP.skip ?_); simp only [go_sem, hge, eAB, eAA, sm1, sm2, f1, f3, tyAll, Nat.reduceAdd, Nat.reduceLT, Nat.reduceLeDiff, Nat.reduceEqDiff, Nat.reduceMul, Nat.reduceSub, Nat.reduceGT, reduceIte, Int.reduceNeg, Int.reduceToNat]) | ((first | refine WP.drawW 27 (by decide +kernel) (by kernel_rfl) ?_); simp only [go_sem, hge, eAB, eAA, sm1, sm2, f1, f3, tyAll, Nat.reduceAdd, Nat.reduceLT, Nat.reduceLeDiff, Nat.reduceEqDiff, Nat.reduceMul, Nat.reduceSub, Nat.reduceGT, reduceIte, Int.reduceNeg, Int.reduceToNat]) |  refine And.intro ?_ ?_ | intro _))
    all_goals first | omega | (simp only; omega) | exact hnm' _ ‹_› | exact Nat.le_trans (hnm _ ‹_›) (by omega) | exact Nat.le_trans (nA _ ‹_›) (by omega) | exact Nat.le_trans (nB _ ‹_›) (by omega) | exact Nat.le_trans (nD _ ‹_›) (by omega) | exact Nat.le_trans (htn _ ‹_›) (by omega) | exact Nat.le_trans (nAB _ ‹_›) (by omega) | exact Nat.le_trans (nAA _ ‹_›) (by omega) | rfl | skip
    all_goals trace_state
end
end
end Go.Proofs.YtklcphbgaeiegaaGreatDoor
/-
  DERIVED. A list of one's own: its end cleared; its end cut off.
-/
namespace Go.Vc
set_option linter.unusedVariables false
set_option linter.unusedSimpArgs false
section
variable {P : Program} {tys : List (Nat × TyD)} {C : List (FuncId × Ctr)} {N : Nat} {X0 : Nat → Prop} {M : Nat → Value → Prop} {w0 : World} {st : St} {β : Nat → Value} {a : Act} {w : World}

/-- a slice of one's own from a place on, cleared -/
theorem clear_own (hty : ∀ T d, lk T tys = some d → TyOk P T d) (h : Sim N X0 M w0 st β a w) {T : Nat} {t e : TyD} (ht : lk T tys = some t) (he : lk t.elem tys = some e) (hk : t.kind = 1) (hzl : e.z.length = e.size) (hz1 : e.z.all Value.oneCell' = true)
    {j es : Nat} {rows : List (List SV)} (hl : lk j st.hp = some (.sl es e.size rows)) {lo : Nat} (hlo : lo ≤ rows.length) (ty : TypeId) :
    ∃ p cap w', β j = .slice p rows.length cap ∧ rows.length ≤ cap ∧ (Builtin.clear_ #[T] ty #[.slice (if cap = lo then p else p.map (·.add (lo * e.size))) (rows.length - lo) (cap - lo)]).run P w = .ok (.tuple #[]) w' ∧
      Sim N X0 M w0 (st.wrt j (.sl es e.size (rows.take lo ++ List.replicate (rows.length - lo) (e.z.map .v)))) β a w' := by
  have hT := (hty T t ht).slice hk
  have hE := hty t.elem e he
  obtain ⟨zv, hz, hzc⟩ := hE.zero w
  have hob := h.objs j _ hl
  generalize hβ : β j = bv at hob
  have none_case : rows.length - lo = 0 → rows.take lo ++ List.replicate (rows.length - lo) (e.z.map .v) = rows := fun h0 => by
    rw [h0, List.replicate_zero, List.append_nil, List.take_of_length_le (by omega)]
  have same : Sim N X0 M w0 (st.wrt j (.sl es e.size rows)) β a w := h.less (fun t x hx => hx) (fun t x hx => by
    simp only [St.wrt, lk] at hx
    by_cases hq : t = j
    · subst hq; rw [if_pos rfl] at hx; rw [hl]; exact hx
    · rw [if_neg hq, lk_er_ne hq] at hx; exact hx)
  cases hob with
  | nil e' s' h0 =>
    have : lo = 0 := by simpa using hlo
    subst this
    refine ⟨none, 0, w, h0, Nat.le_refl _, ?_, ?_⟩
    · simp [Builtin.clear_, run_underlying hT]
    · have := none_case rfl
      rw [this]; exact same
  | sl b cap cur us hv hh hcap hmax hsz hlen hcell hone hr =>
    by_cases h0 : rows.length - lo = 0
    · refine ⟨some ⟨b, 0, none⟩, cap, w, hv, hcap, ?_, ?_⟩
      · rw [h0]
        by_cases hc : cap = lo
        · simp [Builtin.clear_, run_underlying hT, hc]
        · simp [Builtin.clear_, run_underlying hT, hc]
      · rw [none_case h0]; exact same
    · have hne : ¬ cap = lo := by omega
      have hfl := flat_zero (w := w) (X := XX X0 β st.hp) (n := rows.length - lo) (m := (rows.length - lo) * e.size) hzc hzl hz1 (Nat.le_refl _)
      have hzs : zv.cells.size = e.size := by rw [← Array.length_toList, hzc, hzl]
      rw [List.take_of_length_le (by simp)] at hfl
      have hZ : (Builtin.zeroCells zv.cells (rows.length - lo)).toList = ((Array.range ((rows.length - lo) * e.size)).map (zv.cells[· % zv.cells.size]!)).toList := by unfold Builtin.zeroCells; rw [hzs]
      generalize hZn : (Builtin.zeroCells zv.cells (rows.length - lo)).toList = Z at hZ
      rw [← hZ] at hfl
      have hZl := hfl.len
      rw [List.length_replicate] at hZl
      have hmul : lo * e.size + (rows.length - lo) * e.size = rows.length * e.size := by rw [← Nat.add_mul]; congr 1; omega
      have hcm : rows.length * e.size ≤ cap * e.size := Nat.mul_le_mul_right _ hcap
      have hst := run_storeCells_at (P := P) b (lo * e.size) es Z 0 cur w hh (by rw [hZl, hsz]; omega) hfl.one
      simp only [Nat.add_zero] at hst
      refine ⟨some ⟨b, 0, none⟩, cap, w.setRow b (cur.toList.take (lo * e.size) ++ Z ++ cur.toList.drop (lo * e.size + Z.length)).toArray, hv, hcap, ?_, ?_⟩
      · show (Builtin.clear_ #[T] ty #[.slice (if cap = lo then some ⟨b, 0, none⟩ else (some ⟨b, 0, none⟩ : Option Addr).map (·.add (lo * e.size))) (rows.length - lo) (cap - lo)]).run P w = _
        rw [if_neg hne]
        have hadd : (some (⟨b, 0, none⟩ : Addr)).map (·.add (lo * e.size)) = some ⟨b, lo * e.size, none⟩ := by
          simp only [Option.map_some, Addr.add, Option.some.injEq]
          simp
          try exact fun hh => hh.symm
        rw [hadd]
        obtain ⟨n, hn⟩ : ∃ n, rows.length - lo = n + 1 := ⟨rows.length - lo - 1, by omega⟩
        rw [hn] at hZn
        rw [hn]
        simp only [Builtin.clear_, Sem.run_bind, run_underlying hT, Result.andThen_ok, hz, hZn, hst, List.getElem?_toArray, List.getElem?_cons_zero]
        rfl
      · have hblt := lt_of_heap hh
        have hset : (w.setRow b (cur.toList.take (lo * e.size) ++ Z ++ cur.toList.drop (lo * e.size + Z.length)).toArray).heap[b]? = some (.cells (cur.toList.take (lo * e.size) ++ Z ++ cur.toList.drop (lo * e.size + Z.length)).toArray es (0, 0)) := by
          simp [World.setRow, Array.getElem?_modify, hh]
        refine h.write (j := j) (ob := .sl es e.size rows) hl rfl rfl rfl (by rw [setRow_size]; exact Nat.le_refl _) (fun b' hb' hne' => ?_) ?_
        · have : b' ≠ b := fun e' => hne' (by rw [hβ, hv, e']; rfl)
          simp [World.setRow, Array.getElem?_modify, Ne.symm this]
        · rw [hβ]
          have hcl : cur.toList.length = cap * e.size := by rw [Array.length_toList]; exact hsz
          have hlen' : ((rows.take lo ++ List.replicate (rows.length - lo) (e.z.map SV.v)).length) = rows.length := by simp; omega
          have hS : Same (XX X0 β st.hp) w (w.setRow b (cur.toList.take (lo * e.size) ++ Z ++ cur.toList.drop (lo * e.size + Z.length)).toArray) := ⟨by rw [setRow_size]; exact Nat.le_refl _, fun b' _ hn => by
            have : b' ≠ b := fun e' => hn (.inr ⟨j, _, hl, by rw [hβ, hv, e']; rfl⟩)
            simp [World.setRow, Array.getElem?_modify, Ne.symm this]⟩
          have key : ∀ (i k : Nat) (row : List SV) (c : SV), (rows.take lo ++ List.replicate (rows.length - lo) (e.z.map SV.v))[i]? = some row → row[k]? = some c → row.length = e.size →
              ∃ u, (cur.toList.take (lo * e.size) ++ Z ++ cur.toList.drop (lo * e.size + Z.length))[i * e.size + k]? = some u ∧ u.oneCell' = true ∧ Rp w (XX X0 β st.hp) c u := fun i k row c hrow hc hrl => by
            have hks : k < e.size := by rw [← hrl]; exact (List.getElem?_eq_some_iff.1 hc).1
            have htl : (rows.take lo).length = lo := by simp; omega
            have hct : (cur.toList.take (lo * e.size)).length = lo * e.size := by rw [List.length_take, hcl]; omega
            by_cases hi : i < lo
            · rw [List.getElem?_append_left (by rw [htl]; exact hi), List.getElem?_take_of_lt hi] at hrow
              have hlt : i * e.size + k < lo * e.size := lt_flat hi hks
              rw [List.append_assoc, List.getElem?_append_left (by rw [hct]; exact hlt), List.getElem?_take_of_lt hlt]
              refine ⟨us i k, ?_, hone i k row c hrow hc, hr i k row c hrow hc⟩
              have := hcell i k row c hrow hc
              simpa using this
            · rw [List.getElem?_append_right (by rw [htl]; omega), htl] at hrow
              obtain ⟨u, hu, hR⟩ := hfl.cell (i - lo) k row c hrow hc
              have hil : i - lo < rows.length - lo := by
                have := (List.getElem?_eq_some_iff.1 hrow).1
                simpa using this
              have hidx : i * e.size + k = lo * e.size + ((i - lo) * e.size + k) := by
                have : i * e.size = lo * e.size + (i - lo) * e.size := by rw [← Nat.add_mul]; congr 1; omega
                omega
              have hlt : (i - lo) * e.size + k < Z.length := by rw [hZl]; exact lt_flat hil hks
              refine ⟨u, ?_, hfl.one u (List.mem_of_getElem? hu), hR⟩
              rw [hidx, List.append_assoc, List.getElem?_append_right (by rw [hct]; omega), hct, Nat.add_sub_cancel_left, List.getElem?_append_left hlt]
              exact hu
          have hrl : ∀ (i : Nat) (row : List SV), (rows.take lo ++ List.replicate (rows.length - lo) (e.z.map SV.v))[i]? = some row → row.length = e.size := fun i row hrow => by
            have hm := List.mem_of_getElem? hrow
            rcases List.mem_append.1 hm with hm | hm
            · obtain ⟨q, hq⟩ := List.mem_iff_getElem?.1 (List.mem_of_mem_take hm)
              exact hlen q row hq
            · rw [(List.mem_replicate.1 hm).2, List.length_map, hzl]
          refine ObR.sl (us := fun i k => ((cur.toList.take (lo * e.size) ++ Z ++ cur.toList.drop (lo * e.size + Z.length))[i * e.size + k]?).getD undef) b cap _ (by rw [hlen']; exact hv) hset (by rw [hlen']; exact hcap) hmax ?_ hrl ?_ ?_ ?_
          · simp only [List.size_toArray, List.length_append, List.length_take, List.length_drop, hcl]
            omega
          · intro i k row c hrow hc
            obtain ⟨u, hu, _, _⟩ := key i k row c hrow hc (hrl i row hrow)
            rw [hu]; simpa using hu
          · intro i k row c hrow hc
            obtain ⟨u, hu, h1, _⟩ := key i k row c hrow hc (hrl i row hrow)
            rw [hu]; exact h1
          · intro i k row c hrow hc
            obtain ⟨u, hu, _, h2⟩ := key i k row c hrow hc (hrl i row hrow)
            rw [hu]; exact h2.mono hS (fun _ _ hb => hb)

theorem own_slice {X : Nat → Prop} {v : Value} {e s : Nat} {rows : List (List SV)} (h : ObR w X β v (.sl e s rows)) : ∃ p cap, v = .slice p rows.length cap ∧ rows.length ≤ cap ∧ ∀ ad, p = some ad → ad.off = 0 ∧ ad.spot = none := by
  cases h with
  | nil e s h => exact ⟨none, 0, h, Nat.le_refl _, fun ad h => by cases h⟩
  | sl b cap cur us hv hh hcap => exact ⟨_, cap, hv, hcap, fun ad h => by cases h; exact ⟨rfl, rfl⟩⟩

/-- a slice of one's own from a place on, and its clearing -/
def St.clrK (tys : List (Nat × TyD)) (N : Nat) (o3 o4 : Oper) (st : St) (K : St → Prop) : Prop :=
  match o3.op, o4.op with
  | .slice T x (some lo) none none, .call c => match c.callee with
    | .builtin .clear => match o3.dst, c.args.toList, c.argTypes.toList, (st.ev x).strip, (st.ev lo).strip with
      | some d, [.tmp y], [T'], .own j, .v (.int .i64 p) => match lk T tys, lk j st.hp with
        | some t, some (.sl es s rows) => match lk t.elem tys with
          | some e => o3.guard.isNone = true ∧ o4.guard.isNone = true ∧ o4.dst.isNone = true ∧ T = T' ∧ y = d ∧ d < N ∧ t.kind = 1 ∧ s = e.size ∧ e.z.length = e.size ∧ e.z.all Value.oneCell' = true ∧ (st.ev x).need ∧ (st.ev lo).need ∧ 0 ≤ p ∧ p ≤ (rows.length : Int) ∧
              K ((st.put (some d) .junk).wrt j (.sl es s (rows.take p.toNat ++ List.replicate (rows.length - p.toNat) (e.z.map .v))))
          | none => False
        | _, _ => False
      | _, _, _, _, _ => False
    | _ => False
  | _, _ => False
theorem clrK_sound (hty : ∀ T d, lk T tys = some d → TyOk P T d) (h : Sim N X0 M w0 st β a w) {ops : Array Oper} {o3 o4 : Oper} {K : St → Prop} (hw : st.clrK tys N o3 o4 K) {Q : Exit → Act → World → Prop} (hQ : ∀ a w, Ok N X0 M w0 K a w → Q .normal a w) : wpList P ops Q [o3, o4] a w := by
  unfold St.clrK at hw
  split at hw
  case h_2 => exact hw.elim
  case h_1 _ _ T x lo c ho3 ho4 =>
  split at hw
  case h_2 => exact hw.elim
  case h_1 _ hcal =>
  split at hw
  case h_2 => exact hw.elim
  case h_1 _ _ _ _ _ d y T' j p hd3 hargs htys hx hlo =>
  split at hw
  case h_2 => exact hw.elim
  case h_1 _ _ t es s rows ht hl =>
  split at hw
  case h_2 => exact hw.elim
  case h_1 _ e he =>
  obtain ⟨g3, g4, hd4, rfl, rfl, hdN, hk, rfl, hzl, hz1, n1, n2, hp0, hp1, hK⟩ := hw
  have hT := (hty T t ht).slice hk
  have hE := hty t.elem e he
  have hS : ∀ w, (Go.sizeOf t.elem).run P w = .ok e.size w := fun w => hE.sizeOf w
  have ex := (St.ev_strip h hx n1).own_inv
  have el := (St.ev_strip h hlo n2).v_inv
  obtain ⟨pp, cap, hv, hnc, _⟩ := own_slice (h.objs j _ hl)
  have hsl := slice_rows hT hS pp rows.length cap hnc (some (.int .i64 p)) none p rows.length (.inl rfl) (.inr ⟨rfl, rfl⟩) hp0 hp1 (Int.le_refl _) w
  rw [Int.toNat_natCast] at hsl
  generalize hsv : Value.slice (if cap = p.toNat then pp else pp.map (·.add (p.toNat * e.size))) (rows.length - p.toNat) (cap - p.toNat) = sv at hsl
  have hr3 : (execOp a.eval o3).run P w = .ok (.value sv) w := by
    simp [execOp, ho3, ex, hv, el, hsl]
  have h1 := h.put hdN (x := .junk) (v := sv) (.junk _)
  obtain ⟨pp', cap', w', hb, _, hclr, h2⟩ := clear_own hty h1 (T := T) ht he hk hzl hz1 (j := j) (es := es) (rows := rows) hl (lo := p.toNat) (by omega) o4.type
  rw [hv] at hb
  injection hb with e1 e2 e3
  subst e1 e3
  rw [hsv] at hclr
  have hev : (a.put (some y) sv).eval (.tmp y) = sv := by
    show (a.put (some y) sv).tmps.getD y undef = sv
    rw [getD_put_same (by rw [h.size]; exact hdN)]
  have ea : c.args = #[.tmp y] := by rw [← Array.toArray_toList (xs := c.args), hargs]
  have et : c.argTypes = #[T] := by rw [← Array.toArray_toList (xs := c.argTypes), htys]
  have hr4 : (execOp (a.put (some y) sv).eval o4).run P w = .ok (.value (.tuple #[])) w' := by
    simp [execOp, ho4, resolve, hcal, ea, et, invoke, builtin, hev, hclr]
  have w3 : Region.wanted o3 (yielded ops a.tmps) = true := by
    have : o3.guard = none := by simpa using g3
    simp [Region.wanted, this]
  unfold wpList
  rw [if_pos w3]
  refine .inl ?_
  unfold Oper.wp
  rw [hr3, Oper.upon_value, hd3]
  have w4 : Region.wanted o4 (yielded ops (a.put (some y) sv).tmps) = true := by
    have : o4.guard = none := by simpa using g4
    simp [Region.wanted, this]
  unfold wpList
  rw [if_pos w4]
  refine .inl ?_
  unfold Oper.wp
  have hd4' : o4.dst = none := by simpa using hd4
  rw [hr4, Oper.upon_value, hd4']
  unfold wpList
  exact hQ _ _ ⟨_, β, hK, h2⟩

/-- the beginning of a list of one's own: the list is no more than that -/
def St.cutK (tys : List (Nat × TyD)) (N : Nat) (o : Oper) (st : St) (K : St → Prop) : Prop :=
  match o.op with
  | .slice T x none (some hi) none => match o.dst, (st.ev x).strip, (st.ev hi).strip with
    | some d, .own j, .v (.int .i64 p) => match lk T tys, lk j st.hp with
      | some t, some (.sl es s rows) => match lk t.elem tys with
        | some e => o.guard.isNone = true ∧ d < N ∧ j < 1000000 ∧ t.kind = 1 ∧ s = e.size ∧ (st.ev x).need ∧ (st.ev hi).need ∧ 0 ≤ p ∧ p ≤ (rows.length : Int) ∧ K (st.app j d (.sl es s (rows.take p.toNat)))
        | none => False
      | _, _ => False
    | _, _, _ => False
  | _ => False
theorem cutK_sound (hty : ∀ T d, lk T tys = some d → TyOk P T d) (h : Sim N X0 M w0 st β a w) {ops : Array Oper} {o : Oper} {K : St → Prop} (hw : st.cutK tys N o K) {Q : Exit → Act → World → Prop} :
    Region.wanted o (yielded ops a.tmps) = true ∧ o.wp P a w (Ok N X0 M w0 K) Q := by
  unfold St.cutK at hw
  split at hw
  case h_2 => exact hw.elim
  case h_1 _ T x hi ho =>
  split at hw
  case h_2 => exact hw.elim
  case h_1 _ _ _ d j p hd hx hhi =>
  split at hw
  case h_2 => exact hw.elim
  case h_1 _ _ t es s rows ht hl =>
  split at hw
  case h_2 => exact hw.elim
  case h_1 _ e he =>
  obtain ⟨g, hdN, hjl, hk, rfl, n1, n2, hp0, hp1, hK⟩ := hw
  have hgn : o.guard = none := by simpa using g
  refine ⟨by simp [Region.wanted, hgn], ?_⟩
  have hT := (hty T t ht).slice hk
  have hE := hty t.elem e he
  have hS : ∀ w, (Go.sizeOf t.elem).run P w = .ok e.size w := fun w => hE.sizeOf w
  have ex := (St.ev_strip h hx n1).own_inv
  have el := (St.ev_strip h hhi n2).v_inv
  have hob := h.objs j _ hl
  obtain ⟨pp, cap, hv, hnc, hpp⟩ := own_slice hob
  have hsl := slice_rows hT hS pp rows.length cap hnc none (some (.int .i64 p)) 0 p (.inr ⟨rfl, rfl⟩) (.inl rfl) (Int.le_refl _) hp0 hp1 w
  have hsv : Value.slice (if cap = (0 : Int).toNat then pp else pp.map (·.add ((0 : Int).toNat * e.size))) (p.toNat - (0 : Int).toNat) (cap - (0 : Int).toNat) = .slice pp p.toNat cap := by
    have h0 : (0 : Int).toNat = 0 := rfl
    rw [h0, Nat.zero_mul, Nat.sub_zero, Nat.sub_zero]
    congr 1
    split
    · rfl
    · cases pp with
      | none => rfl
      | some ad =>
        obtain ⟨q1, q2⟩ := hpp ad rfl
        obtain ⟨a1, a2, a3⟩ := ad
        simp only at q1 q2
        subst q1 q2
        simp [Addr.add]
  rw [hsv] at hsl
  have hr : (execOp a.eval o).run P w = .ok (.value (.slice pp p.toNat cap)) w := by
    simp [execOp, ho, ex, hv, el, hsl]
  have hblk : ∀ b, blk (.slice pp p.toNat cap) = some b ↔ blk (β j) = some b := fun b => by rw [hv]; cases pp <;> rfl
  let β' : Nat → Value := fun i => if i = j then .slice pp p.toNat cap else β i
  have hβ : ∀ i, i ≠ j → β' i = β i := fun i hi => by show (if i = j then _ else β i) = _; rw [if_neg hi]
  have hβj : β' j = .slice pp p.toNat cap := by show (if j = j then _ else β j) = _; rw [if_pos rfl]
  have hX1 : ∀ b, b < w.heap.size → (X0 b ∨ blk (β j) = some b) → XX X0 β st.hp b := fun b _ hh => by
    rcases hh with hh | hh
    · exact .inl hh
    · exact .inr ⟨j, _, hl, hh⟩
  have h1 : Sim N (fun b => X0 b ∨ blk (β j) = some b) M w0 (st.kill j) β' a w :=
    h.kill j hjl hβ (by rw [hβj]; rfl) rfl rfl rfl (Nat.le_refl _) (fun b _ _ => rfl) hX1 (fun b hh => by
      rcases hh with hh | hh
      · exact h.x0 b hh
      · exact hob.lt hh)
  have hXk : ∀ b, b < w.heap.size → XX (fun b => X0 b ∨ blk (β j) = some b) β' (st.kill j).hp b → XX X0 β st.hp b := fun b hlt hh => XX_kill hβ (hX1 b hlt) hh
  have hSm : Same (XX X0 β st.hp) w w := ⟨Nat.le_refl _, fun _ _ _ => rfl⟩
  have hob' : ObR w (XX (fun b => X0 b ∨ blk (β j) = some b) β' (st.kill j).hp) β' (.slice pp p.toNat cap) (.sl es e.size (rows.take p.toNat)) := by
    have hlen : (rows.take p.toNat).length = p.toNat := by rw [List.length_take]; omega
    generalize hbv : β j = bv at hob hv
    cases hob with
    | nil e' s' h0 =>
      rw [h0] at hv
      injection hv with q1 q2 q3
      subst q1 q3
      have : p.toNat = 0 := by simp at hp1; omega
      rw [this]
      exact .nil _ _ rfl
    | sl b cap' cur us hv' hh hcap hmax hsz hlenr hcell hone hrp =>
      rw [hv'] at hv
      injection hv with q1 q2 q3
      subst q1 q3
      have sub : ∀ {i : Nat} {row : List SV}, (rows.take p.toNat)[i]? = some row → rows[i]? = some row := fun {i row} hq => by
        rw [List.getElem?_take] at hq
        split at hq
        · exact hq
        · cases hq
      exact ObR.sl b cap' cur us (by rw [hlen]) hh (by rw [hlen]; omega) hmax hsz (fun i row hq => hlenr i row (sub hq)) (fun i k row c hq hc => hcell i k row c (sub hq) hc) (fun i k row c hq hc => hone i k row c (sub hq) hc)
        (fun i k row c hq hc => (hrp i k row c (sub hq) hc).mono hSm (fun b hlt hh => hXk b hlt (by rw [hbv]; exact hh)))
  have h2 := h1.add (j := j) (lk_kill st j) (ob := .sl es e.size (rows.take p.toNat)) (by rw [hβj]; exact hob') (fun b hh => .inr (by rw [hβj] at hh; exact (hblk b).1 hh))
    (fun b hh => by rw [hβj] at hh; exact h.mine j _ b hl ((hblk b).1 hh))
    (fun b id o' hh hi' hid => by
      rw [hβj] at hh
      have hne : id ≠ j := fun e => by subst e; rw [lk_kill] at hi'; cases hi'
      rw [hβ id hne] at hid
      rw [lk_kill_ne hne] at hi'
      cases hy : lk id st.hp with
      | none => rw [hy] at hi'; cases hi'
      | some y => exact hne (h.inj id j y _ b hy hl hid ((hblk b).1 hh)))
  have h3 := h2.un (X1 := X0) (fun b hh => .inl hh)
  unfold Oper.wp
  rw [hr, Oper.upon_value, hd]
  refine ⟨_, β', hK, ?_⟩
  have hR := R.own (w := w) (X := XX X0 β' ((j, .sl es e.size (rows.take p.toNat)) :: (st.kill j).hp)) (β := β') j
  rw [hβj] at hR
  exact h3.put hdN hR

theorem runR_then (hA : Ap P X0 M w0) (hty : ∀ T d, lk T tys = some d → TyOk P T d) (hC : COk P C) {ops : Array Oper} {l2 : List Oper} {K : St → Prop} {Q : Exit → Act → World → Prop} (hQ : ∀ a w, Ok N X0 M w0 K a w → wpList P ops Q l2 a w) :
    ∀ (l : List Oper) {st : St} {β : Nat → Value} {a : Act} {w : World}, Sim N X0 M w0 st β a w → St.runR tys C N ops l st K → wpList P ops Q (l ++ l2) a w
  | [], st, β, a, w, h, hw => hQ a w ⟨st, β, hw, h⟩
  | o :: l, st, β, a, w, h, hw => by
    have h1 := step_sound (Q := Q) hA hty hC h hw
    show wpList P ops Q (o :: (l ++ l2)) a w
    unfold wpList
    split
    · rename_i hwt
      rw [if_pos hwt] at h1
      exact .inl (Oper.wp_mono (fun a' w' ⟨st', β', h2, h3⟩ => runR_then hA hty hC hQ l h3 h2) h1)
    · rename_i hwt
      rw [if_neg hwt] at h1
      obtain ⟨st', β', h2, h3⟩ := h1
      exact runR_then hA hty hC hQ l h3 h2
end
section
variable {c : Cx} {N : Nat} {X0 : Nat → Prop} {M : Nat → Value → Prop} {w0 : World} {st : St} {K : Exit → St → Prop}
theorem WP.regionClr {id : Nat} {o1 o2 o3 o4 : Oper} (h : St.runR c.tys c.C N #[o1, o2, o3, o4] [o1, o2] st fun st' => st'.clrK c.tys N o3 o4 (K .normal)) : WP c N X0 M w0 (.region id #[o1, o2, o3, o4] false) st K := fun hA β a w hs =>
  wp_region_lit (l := [o1, o2, o3, o4]) (runR_then hA c.hty c.hC (l2 := [o3, o4]) (fun a w ⟨st', β', h1, h2⟩ => clrK_sound c.hty h2 h1 (fun a w hk => hk)) [o1, o2] hs h)
theorem WP.regionCut {id : Nat} {o1 o2 o3 o4 : Oper} (h : St.runR c.tys c.C N #[o1, o2, o3, o4] [o1, o2] st fun st' => st'.cutK c.tys N o3 fun st2 => St.runR c.tys c.C N #[o1, o2, o3, o4] [o4] st2 (K .normal)) : WP c N X0 M w0 (.region id #[o1, o2, o3, o4] false) st K := fun hA β a w hs =>
  wp_region_lit (l := [o1, o2, o3, o4]) (runR_then hA c.hty c.hC (l2 := [o3, o4]) (fun a w ⟨st', β', h1, h2⟩ => by
    obtain ⟨q1, q2⟩ := cutK_sound (ops := #[o1, o2, o3, o4]) (Q := fun e a w => Ok N X0 M w0 (K e) a w) c.hty h2 h1
    unfold wpList
    rw [if_pos q1]
    exact .inl (Oper.wp_mono (fun a' w' ⟨st3, β3, h4, h5⟩ => runR_sound hA c.hty c.hC (fun a w hk => hk) [o4] h5 h4) q2)) [o1, o2] hs h)
end
end Go.Vc

namespace Go.Proofs.YtklcphbgaeiegaaGreatDoor
open Go.Vc
attribute [local go_sem] St.runR St.runW St.stepV offV St.step St.stepU St.stepG mkCond guardB St.prK St.pr St.prLen St.eff St.callE St.callD St.callF St.callL aI aB aS aR aC St.isM St.argL Ctr.pure Ctr.lend Ctr.move Ctr.isL Ctr.wri pur len lentBy St.lentV St.lent1 nthS argsR restOf obsR pairs swapL unObs backL St.resL erL SV.ren1 SV.up SV.up2 Ob.up St.fzL cellIds partIds St.intoRow SV.ownId St.fz SV.fz1 St.prep St.mvL St.mv SV.re1 rnOk St.prEq vals eqCells scEq Value.kd St.prStr St.prCut cutR St.bnd St.prMin St.bld isShift outL retL outJ oR oC St.ev St.get St.put St.new St.kill SV.kill SV.kill1 Ob.kill St.app St.wrt St.rowsOf St.res St.killL lk er argsL SV.strip SV.need SV.share SV.share1 SV.owns SV.owns1 SV.owns2 SV.good SV.good1 SV.rok SV.rok1 SV.rok2 SV.isV SV.isV2 nodupN SV.cells SV.one SV.pur Ob.pb partsIn rowsIn splice cellsAt dstOk scal2 scal1 thenK blockK retK outK outs okC okL okA okT nilC nilL nilA nilT keepC keepL keepA keepT St.runG St.dltK St.least St.clean St.final St.hide offK badS badO SV.refs SV.leaf SV.leaf2 Ob.refs dlOk fpAt Go.Vc.cover tups SV.ofAgg St.out outC subL St.has rng wr Value.oneCell' Option.isSome_some Option.isSome_none List.nil_append Bool.false_eq_true List.map_cons List.map_nil List.all_cons List.all_nil List.length_cons List.length_nil List.drop_zero List.drop_succ_cons List.take_succ_cons List.take_zero List.drop_nil List.take_nil List.getElem?_cons_zero List.getElem?_cons_succ List.getElem?_nil List.cons_append List.nil_append List.append_nil List.append_assoc List.flatMap_cons List.flatMap_nil List.contains_cons List.contains_nil List.set_cons_zero List.set_cons_succ List.getElem?_toArray Option.getD_some Option.getD_none Option.map_some Option.map_none Option.bind_some Option.some.injEq Prod.mk.injEq if_true if_false true_and and_true and_self and_false false_and Bool.and_false Bool.false_and Bool.or_true Bool.true_or Bool.or_false Bool.false_or ne_eq not_true_eq_false not_false_eq_true decide_true decide_false List.mem_cons List.not_mem_nil List.filter_cons List.filter_nil List.any_cons List.any_nil List.isEmpty_nil List.isEmpty_cons Option.getD_none or_false false_or true_or or_true forall_eq_or_imp forall_eq reduceCtorEq exists_eq exists_eq' exists_eq_left' exists_eq_left exists_eq_right exists_eq_right' imp_self implies_true Bool.and_true Bool.true_and Bool.and_self beq_self_eq_true List.replicate_succ List.replicate_zero forall_const false_implies pickB_or pickB_and beqT beqF Int.toNat_natCast List.length_map List.length_replicate ge_iff_le gt_iff_lt decide_eq_true_eq decide_eq_false_iff_not Bool.and_eq_true Bool.or_eq_true Bool.not_eq_true' Bool.not_eq_false' condG List.toList_toArray Bool.or_eq_false_iff Bool.and_eq_false_iff Int.not_lt Int.not_le beq_iff_eq beq_eq_false_iff_ne bne_iff_ne bne_eq_false_iff_eq ne_eq Bool.not_true Bool.not_false exists_and_left
section
open Go.Vc
set_option linter.unusedSimpArgs false
set_option linter.unusedVariables false
set_option maxHeartbeats 1000000
set_option maxRecDepth 10000
attribute [local irreducible] Go.Vc.WP
attribute [local go_sem] cx0_t cx0_c
attribute [local go_sem] decFrame_enc oneFrame_enc oneFrame_ab' capS St.clrK St.cutK
def kHid1 : Ctr := pur (fun args => (oneFrame (aC args 0), capS args 1)) (fun x => [.agg (encFrame x.1), .rptr 1 [[.v (.string x.2)]] 0 0]) (fun _ => True) (fun _ x => .v (.bool (hasName x.2 x.1))) (fun _ _ => [])
section
noncomputable def cxHi1 : Cx := { P := Tryz.prog, tys := tys, C := [], hty := tysOk, hC := COk.nil _ }
theorem cxHi1_t : cxHi1.tys = tys := rfl
theorem cxHi1_c : cxHi1.C = [] := rfl
attribute [local go_sem] cxHi1_t cxHi1_c 
theorem cHid1 : Cn Tryz.prog 93 kHid1 := by
  refine Cn.pur Tryz.func93 (by kernel_rfl) rfl fun d x hx => ?_
  obtain ⟨x, s⟩ := x
  refine Holds.go (c := cxHi1) Tryz.func93 rfl Tryz.results93 Tryz.ntmps93 (by omega) (by simp) rfl ?_
  intro X0 w0
  have hr : Go.Vc.rowAt [[SV.v (Value.string s)]] 0 = [SV.v (Value.string s)] := rfl
  simp only [encFrame]
  (repeat' (first | refine WP.seq ?_ | refine WP.block ?_ | ((first | refine WP.region ?_ | refine WP.condW ?_ | refine WP.ret ?_ | refine WP.exit ?_ | refine WP.skip ?_); simp only [go_sem, hr, hasName, tyAll, Nat.reduceAdd, Nat.reduceLT, Nat.reduceLeDiff, Nat.reduceEqDiff, Nat.reduceMul, Nat.reduceSub, Nat.reduceGT, reduceIte, Int.reduceNeg, Int.reduceToNat]) |  refine And.intro ?_ ?_ | intro _))
  all_goals first | omega | skip
end
def kIdxH : Ctr := pur (fun args => (decFrame (aR args 0), capS args 1)) (fun x => [.sl 2 (x.1.map encFrame), .fn 93 [.rptr 1 [[.v (.string x.2)]] 0 0]]) (fun x => x.1.length ≤ 4398046511104)
  (fun _ x => .v (.int .i64 (idxF x.2 x.1))) (fun _ _ => [])
section
noncomputable def cxHi2 : Cx := { P := Tryz.prog, tys := tys, C := [(93, kHid1)], hty := tysOk, hC := COk.cons cHid1 (COk.nil _) }
theorem cxHi2_t : cxHi2.tys = tys := rfl
theorem cxHi2_c : cxHi2.C = [(93, kHid1)] := rfl
attribute [local go_sem] cxHi2_t cxHi2_c kHid1
theorem cIdxH : Cn Tryz.prog 135 kIdxH := by
  refine Cn.pur Tryz.func135 (by kernel_rfl) rfl fun d x hx => ?_
  obtain ⟨L, s⟩ := x
  simp only at hx ⊢
  refine Holds.go (c := cxHi2) Tryz.func135 rfl Tryz.results135 Tryz.ntmps135 (by omega) (by simp) rfl ?_
  intro X0 w0
  (repeat' (first | refine WP.seq ?_ | refine WP.block ?_ | ((first | refine WP.region ?_ | refine WP.condW ?_ | refine WP.ret ?_ | refine WP.exit ?_ | refine WP.skip ?_); simp only [go_sem, tyAll, Nat.reduceAdd, Nat.reduceLT, Nat.reduceLeDiff, Nat.reduceEqDiff, Nat.reduceMul, Nat.reduceSub, Nat.reduceGT, reduceIte, Int.reduceNeg, Int.reduceToNat]) |  refine And.intro ?_ ?_ | intro _))
  refine WP.loop (fun k : Nat => ⟨[(0, .sl 2 (L.map encFrame)), (1, .fn 93 [.rptr 1 [[.v (.string s)]] 0 0]), (7, .v (.int .i64 L.length)), (8, .v (.int .i64 k))], []⟩)
    (fun k => k ≤ L.length ∧ ∀ i (hi : i < L.length), i < k → hasName s L[i] = false) (fun k => L.length - k) 0 (by simp) ?_ ?_
  · (simp only [go_sem, tyAll, Nat.reduceAdd, Nat.reduceLT, Nat.reduceLeDiff, Nat.reduceEqDiff, Nat.reduceMul, Nat.reduceSub, Nat.reduceGT, reduceIte, Int.reduceNeg, Int.reduceToNat] <;> (first | rfl | exact ⟨rfl, rfl⟩ | exact ⟨rfl, rfl, rfl⟩ | exact ⟨rfl, rfl, rfl, rfl⟩ | exact ⟨rfl, rfl, rfl, rfl, rfl⟩ | exact ⟨⟨rfl, rfl⟩, rfl⟩ | simp))
  intro k ⟨hk, hf⟩
  by_cases hlt : k < L.length
  · have hli : (k : Int) < L.length := by omega
    have h1 := rowAt_map encFrame L k hlt
    (repeat' (first | refine WP.seq ?_ | refine WP.block ?_ | ((first | refine WP.region ?_ | refine WP.condW ?_ | refine WP.ret ?_ | refine WP.exit ?_ | refine WP.skip ?_); simp only [go_sem, hli, h1, encFrame, tyAll, Nat.reduceAdd, Nat.reduceLT, Nat.reduceLeDiff, Nat.reduceEqDiff, Nat.reduceMul, Nat.reduceSub, Nat.reduceGT, reduceIte, Int.reduceNeg, Int.reduceToNat]) |  refine And.intro ?_ ?_ | intro _))
    all_goals first | omega | skip
    · rename_i hh
      rw [show idxF s L = k from firstIdx_hit (p := hasName s) hlt hf (by first | exact hh | simpa [hasName] using hh)]
    · rename_i hh
      refine ⟨k + 1, ⟨by omega, fun i hi hik => ?_⟩, by omega, rfl⟩
      rcases Nat.lt_or_ge i k with h | h
      · exact hf i hi h
      · have : i = k := by omega
        subst this
        first | exact hh | simpa [hasName] using hh
  · have hge : ¬ (k : Int) < L.length := by omega
    (repeat' (first | refine WP.seq ?_ | refine WP.block ?_ | ((first | refine WP.region ?_ | refine WP.condW ?_ | refine WP.ret ?_ | refine WP.exit ?_ | refine WP.skip ?_); simp only [go_sem, hge, tyAll, Nat.reduceAdd, Nat.reduceLT, Nat.reduceLeDiff, Nat.reduceEqDiff, Nat.reduceMul, Nat.reduceSub, Nat.reduceGT, reduceIte, Int.reduceNeg, Int.reduceToNat]) |  refine And.intro ?_ ?_ | intro _))
    all_goals first | omega | skip
    rw [show idxF s L = -1 from firstIdx_none fun i hi => hf i hi (by omega)]
end
theorem firstIdx_first' {α : Type} {p : α → Bool} {L : List α} {k : Nat} (h : firstIdx p L = k) : ∀ i (hi : i < L.length), i < k → p L[i] = false := by
  unfold firstIdx at h
  cases hq : L.findIdx? p with
  | none => rw [hq] at h; simp only at h; omega
  | some m =>
    rw [hq] at h
    simp only at h
    have hm : m = k := by omega
    subst hm
    rw [List.findIdx?_eq_some_iff_getElem] at hq
    obtain ⟨_, _, h3⟩ := hq
    intro i hi hik
    have := h3 i hik
    simpa using this
theorem hide_app (s : ByteArray) (A B : List Frame) : hideG s (A ++ B) = hideG s A ++ hideG s B := List.filter_append ..
theorem hide_all {s : ByteArray} {L : List Frame} (h : ∀ i (hi : i < L.length), hasName s L[i] = false) : hideG s L = L := by
  unfold hideG
  rw [List.filter_eq_self]
  intro f hf
  obtain ⟨i, hi, rfl⟩ := List.mem_iff_getElem.1 hf
  rw [h i hi]; rfl
structure DelI (s : ByteArray) (L : List Frame) (q : Nat × Nat × List Frame) : Prop where
  le : q.2.1 ≤ L.length
  lt : q.1 < q.2.1
  len : q.2.2.length = L.length
  hd : q.2.2.take q.1 = hideG s (L.take q.2.1)
  tl : q.2.2.drop q.2.1 = L.drop q.2.1
theorem DelI.at {s : ByteArray} {L : List Frame} {i j : Nat} {M : List Frame} (h : DelI s L (i, j, M)) (hj : j < L.length) : ∃ hm : j < M.length, M[j] = L[j] := by
  have h1 := h.len
  have h2 := h.tl
  simp only at h1 h2
  have hm : j < M.length := by omega
  refine ⟨hm, ?_⟩
  rw [List.drop_eq_getElem_cons hm, List.drop_eq_getElem_cons hj] at h2
  exact (List.cons.inj h2).1
theorem take_next {s : ByteArray} {L : List Frame} {j : Nat} (hj : j < L.length) : hideG s (L.take (j + 1)) = hideG s (L.take j) ++ (if hasName s L[j] = true then [] else [L[j]]) := by
  rw [List.take_succ_eq_append_getElem hj, hide_app]
  congr 1
  unfold hideG
  cases h : hasName s L[j] <;> simp [h]
theorem DelI.skip {s : ByteArray} {L : List Frame} {i j : Nat} {M : List Frame} (h : DelI s L (i, j, M)) (hj : j < L.length) (hn : hasName s L[j] = true) : DelI s L (i, j + 1, M) := by
  obtain ⟨h1, h2, h3, h4, h5⟩ := h
  simp only at h1 h2 h3 h4 h5
  refine ⟨hj, by simp only; omega, h3, ?_, ?_⟩
  · simp only; rw [take_next hj, if_pos hn, List.append_nil]; exact h4
  · simp only
    have := congrArg (List.drop 1) h5
    rw [List.drop_drop, List.drop_drop] at this
    exact this
theorem DelI.keep {s : ByteArray} {L : List Frame} {i j : Nat} {M : List Frame} (h : DelI s L (i, j, M)) (hj : j < L.length) (hn : hasName s L[j] = false) : DelI s L (i + 1, j + 1, M.set i L[j]) := by
  obtain ⟨h1, h2, h3, h4, h5⟩ := h
  simp only at h1 h2 h3 h4 h5
  refine ⟨hj, by simp only; omega, by simp only [List.length_set]; exact h3, ?_, ?_⟩
  · simp only
    rw [take_next hj, if_neg (by rw [hn]; simp), ← h4]
    have him : i < M.length := by omega
    have hi2 : i < (M.set i L[j]).length := by rw [List.length_set]; exact him
    rw [List.take_succ_eq_append_getElem hi2, List.getElem_set_self, List.take_set_of_le (Nat.le_refl i)]
  · simp only
    rw [List.drop_set, if_pos (by omega)]
    have := congrArg (List.drop 1) h5
    rw [List.drop_drop, List.drop_drop] at this
    exact this
theorem DelI.start {s : ByteArray} {L : List Frame} {k : Nat} (hk : k < L.length) (h : hasName s L[k] = true) (hf : ∀ i (hi : i < L.length), i < k → hasName s L[i] = false) : DelI s L (k, k + 1, L) := by
  refine ⟨hk, by simp only; omega, rfl, ?_, rfl⟩
  simp only
  rw [take_next hk, if_pos h, List.append_nil, hide_all fun i hi => by
    rw [List.getElem_take]
    rw [List.length_take] at hi
    exact hf i (by omega) (by omega)]
theorem DelI.done {s : ByteArray} {L : List Frame} {i : Nat} {M : List Frame} (h : DelI s L (i, L.length, M)) : M.take i = hideG s L := by
  have := h.hd
  simp only [List.take_length] at this
  exact this
def kDel : Ctr := len [] [0] (fun args obs => (decFrame (oR obs 900000), capS args 1)) (fun x => [.own 900000, .fn 93 [.rptr 1 [[.v (.string x.2)]] 0 0]]) (fun x => [(900000, .sl 46 2 (x.1.map encFrame))]) (fun x => x.1.length ≤ 4398046511104)
  (fun d _ => .own d) (fun d x => [(d, .sl 46 2 ((hideG x.2 x.1).map encFrame))]) (fun _ => [])
section
noncomputable def cxDel : Cx := { P := Tryz.prog, tys := tys, C := [(93, kHid1), (135, kIdxH)], hty := tysOk, hC := COk.cons cHid1 (COk.cons cIdxH (COk.nil _)) }
theorem cxDel_t : cxDel.tys = tys := rfl
theorem cxDel_c : cxDel.C = [(93, kHid1), (135, kIdxH)] := rfl
attribute [local go_sem] cxDel_t cxDel_c kHid1 kIdxH
theorem cDel : Cn Tryz.prog 92 kDel := by
  refine Cn.len Tryz.func92 (by kernel_rfl) rfl fun d x hd hx => ?_
  obtain ⟨L, s⟩ := x
  simp only at hx ⊢
  refine HoldsL.go (c := cxDel) Tryz.func92 rfl Tryz.results92 Tryz.ntmps92 (by omega) (by simp) rfl (by simp <;> omega) (by simp [SV.owns2, SV.owns, SV.owns1]) (by simp) rfl rfl (by simp) ?_
  intro X0 M w0
  by_cases hn : idxF s L < 0
  · have hi1 : idxF s L = -1 := by
      unfold idxF firstIdx at hn ⊢
      split at hn
      · omega
      · rfl
    have hall := firstIdx_neg hn
    have hh : hideG s L = L := hide_all fun i hi => hall _ (List.getElem_mem hi)
    rw [hh]
    (repeat' (first | refine WP.seq ?_ | refine WP.block ?_ | ((first | refine WP.region ?_ | refine WP.condW ?_ | refine WP.ret ?_ | refine WP.exit ?_ | refine WP.skip ?_); simp only [go_sem, hi1, tyAll, Nat.reduceAdd, Nat.reduceLT, Nat.reduceLeDiff, Nat.reduceEqDiff, Nat.reduceMul, Nat.reduceSub, Nat.reduceGT, reduceIte, Int.reduceNeg, Int.reduceToNat]) |  refine And.intro ?_ ?_ | intro _))
    all_goals first | omega | skip
    all_goals trace_state
  · obtain ⟨k, hk, e1, e2⟩ := firstIdx_pos hn
    have e1' : idxF s L = k := e1
    have hne : ¬ ((k : Int) = -1) := by omega
    have hst := DelI.start hk e2 (firstIdx_first' e1)
    (repeat' (first | refine WP.seq ?_ | refine WP.block ?_ | ((first | refine WP.region ?_ | refine WP.condW ?_ | refine WP.ret ?_ | refine WP.exit ?_ | refine WP.skip ?_); simp only [go_sem, e1', hne, tyAll, Nat.reduceAdd, Nat.reduceLT, Nat.reduceLeDiff, Nat.reduceEqDiff, Nat.reduceMul, Nat.reduceSub, Nat.reduceGT, reduceIte, Int.reduceNeg, Int.reduceToNat]) |  refine And.intro ?_ ?_ | intro _))
    all_goals first | omega | skip
    refine WP.loop (fun q : Nat × Nat × List Frame => ⟨[(0, .own 900000), (1, .fn 93 [.rptr 1 [[.v (.string s)]] 0 0]), (5, .v (.int .i64 q.1)), (6, .v (.int .i64 q.2.1))], [(900000, .sl 46 2 (q.2.2.map encFrame))]⟩)
      (fun q => DelI s L q) (fun q => L.length - q.2.1) (k, k + 1, L) hst ?_ ?_
    · (simp only [go_sem, tyAll, Nat.reduceAdd, Nat.reduceLT, Nat.reduceLeDiff, Nat.reduceEqDiff, Nat.reduceMul, Nat.reduceSub, Nat.reduceGT, reduceIte, Int.reduceNeg, Int.reduceToNat] <;> (first | rfl | exact ⟨rfl, rfl⟩ | exact ⟨rfl, rfl, rfl⟩ | exact ⟨rfl, rfl, rfl, rfl⟩ | exact ⟨rfl, rfl, rfl, rfl, rfl⟩ | exact ⟨⟨rfl, rfl⟩, rfl⟩ | simp))
    rintro ⟨i, j, M⟩ hI
    have hl1 := hI.le
    have hl2 := hI.lt
    have hl3 := hI.len
    simp only at hl1 hl2 hl3 ⊢
    by_cases hlt : j < L.length
    · obtain ⟨hjm, hje⟩ := hI.at hlt
      have hji : (j : Int) < M.length := by omega
      have him : i < M.length := by omega
      have hii : (i : Int) < M.length := by omega
      have h1 := rowAt_map encFrame M j hjm
      rw [hje] at h1
      have h2 := rowAt_map encFrame M i him
      cases hq : hasName s L[j] with
      | true =>
        have hnx := hI.skip hlt hq
        (repeat' (first | refine WP.seq ?_ | refine WP.block ?_ | ((first | refine WP.region ?_ | refine WP.condW ?_ | refine WP.ret ?_ | refine WP.exit ?_ | refine WP.skip ?_); simp only [go_sem, hji, h1, encFrame, hq, tyAll, Nat.reduceAdd, Nat.reduceLT, Nat.reduceLeDiff, Nat.reduceEqDiff, Nat.reduceMul, Nat.reduceSub, Nat.reduceGT, reduceIte, Int.reduceNeg, Int.reduceToNat]) |  refine And.intro ?_ ?_ | intro _))
        all_goals first | omega | exact ⟨(i, j + 1, M), hnx, by simp only; omega, by (first | rfl | exact ⟨rfl, rfl⟩ | exact ⟨rfl, rfl, rfl⟩ | exact ⟨rfl, rfl, rfl, rfl⟩ | exact ⟨rfl, rfl, rfl, rfl, rfl⟩ | exact ⟨⟨rfl, rfl⟩, rfl⟩ | simp)⟩ | skip
        all_goals trace_state
      | false =>
        have hnx := hI.keep hlt hq
        (repeat' (first | refine WP.seq ?_ | refine WP.block ?_ | ((first | refine WP.region ?_ | refine WP.condW ?_ | refine WP.ret ?_ | refine WP.exit ?_ | refine WP.skip ?_); simp only [go_sem, hji, h1, encFrame, hq, hii, h2, tyAll, Nat.reduceAdd, Nat.reduceLT, Nat.reduceLeDiff, Nat.reduceEqDiff, Nat.reduceMul, Nat.reduceSub, Nat.reduceGT, reduceIte, Int.reduceNeg, Int.reduceToNat]) |  refine And.intro ?_ ?_ | intro _))
        all_goals first | omega | exact ⟨(i + 1, j + 1, M.set i L[j]), hnx, by simp only; omega, by simp only [List.map_set, encFrame]; (first | rfl | exact ⟨rfl, rfl⟩ | exact ⟨rfl, rfl, rfl⟩ | exact ⟨rfl, rfl, rfl, rfl⟩ | exact ⟨rfl, rfl, rfl, rfl, rfl⟩ | exact ⟨⟨rfl, rfl⟩, rfl⟩ | simp)⟩ | skip
        all_goals trace_state
    · have hge : ¬ (j : Int) < M.length := by omega
      have hje : j = L.length := by omega
      subst hje
      have hd := hI.done
      have hi0 : i ≤ M.length := by omega
      have hii : (i : Int) ≤ M.length := by omega
      (repeat' (first | (refine WP.regionClr (id := 11) ?_; simp only [go_sem, hge, hii, tyAll, Nat.reduceAdd, Nat.reduceLT, Nat.reduceLeDiff, Nat.reduceEqDiff, Nat.reduceMul, Nat.reduceSub, Nat.reduceGT, reduceIte, Int.reduceNeg, Int.reduceToNat]) | (refine WP.regionCut (id := 12) ?_; simp only [go_sem, hge, hii, tyAll, Nat.reduceAdd, Nat.reduceLT, Nat.reduceLeDiff, Nat.reduceEqDiff, Nat.reduceMul, Nat.reduceSub, Nat.reduceGT, reduceIte, Int.reduceNeg, Int.reduceToNat]) | refine WP.seq ?_ | refine WP.block ?_ | ((first | refine WP.region ?_ | refine WP.condW ?_ | refine WP.ret ?_ | refine WP.exit ?_ | refine WP.skip ?_); simp only [go_sem, hge, hii, tyAll, Nat.reduceAdd, Nat.reduceLT, Nat.reduceLeDiff, Nat.reduceEqDiff, Nat.reduceMul, Nat.reduceSub, Nat.reduceGT, reduceIte, Int.reduceNeg, Int.reduceToNat]) |  refine And.intro ?_ ?_ | intro _))
      all_goals first | omega | rfl | (simp only [List.length_append, List.length_take, List.length_map, List.length_replicate]; omega) | skip
      all_goals rw [List.take_left' (by rw [List.length_take, List.length_map]; omega), ← List.map_take, hd]
end
end
section
open Go.Vc
set_option linter.unusedSimpArgs false
set_option linter.unusedVariables false
set_option maxHeartbeats 1000000
set_option maxRecDepth 10000
attribute [local irreducible] Go.Vc.WP
attribute [local go_sem] cx0_t cx0_c
def fl2237a947e0 : List Go.Vc.Fp := [⟨[5], [], [], [65], [], []⟩, ⟨[10], [], [], [65], [], []⟩, ⟨[57], [1], [], [65], [], []⟩, ⟨[6], [], [], [65], [], []⟩, ⟨[7], [], [], [65], [], []⟩, ⟨[59, 60], [3, 4], [], [65], [], []⟩, ⟨[61], [3, 4, 5], [], [65], [], []⟩, ⟨[62], [3, 4, 5, 6], [], [65], [], []⟩, ⟨[58, 63], [1, 2, 3, 4, 5, 6, 7], [], [65], [], []⟩, ⟨[64], [1, 2, 3, 4, 5, 6, 7, 8], [], [], [], [65]⟩, ⟨[], [0, 1, 2, 3, 4, 5, 6, 7, 8, 9], [], [], [], []⟩, ⟨[], [0, 1, 2, 3, 4, 5, 6, 7, 8, 9, 10], [], [], [], []⟩]
def fl7092722584 : List Go.Vc.Fp := [⟨[5], [], [], [39], [], []⟩, ⟨[10], [], [], [39], [], []⟩, ⟨[34], [1], [], [39], [], []⟩, ⟨[7], [], [], [39], [], []⟩, ⟨[36], [3], [], [39], [], []⟩, ⟨[35, 37], [1, 2, 3, 4], [], [39], [], []⟩, ⟨[38], [1, 2, 3, 4, 5], [], [], [], [39]⟩, ⟨[], [0, 1, 2, 3, 4, 5, 6], [], [], [], []⟩, ⟨[], [0, 1, 2, 3, 4, 5, 6, 7], [], [], [], []⟩]
attribute [local go_sem] fl2237a947e0 fl7092722584
attribute [local go_sem] isV_Node isV_It isV_Entry decNode_enc decFrame_enc oneFrame_enc stkA oneFrame_ab oneNode_abc decI_enc decS_enc aU prA decEntry_enc St.fzS addL behind capS capI
def kHide : Ctr := pur (fun args => (prA args 0, aS args 1)) (fun x => [.agg [.sl 3 (x.1.1.map encNode), .sl 1 (x.1.2.map encI)], .v (.string x.2)])
  (fun x => (x.1.1.length ≤ 1048576 ∧ ∀ n ∈ x.1.1, n.name.size ≤ 1048576) ∧ x.1.2.length ≤ 1048576) (fun d _ => .agg [.own d, .own (d + 1000)])
  (fun d x => [(d, .sl 157 3 ((mapP (hideG x.2) x.1.1 x.1.2).1.map encNode)), (d + 1000, .sl 3 1 ((mapP (hideG x.2) x.1.1 x.1.2).2.map encI))])
theorem hide_snoc (s : ByteArray) {L : List Frame} {i : Nat} (hi : i < L.length) : hideG s (L.take (i + 1)) = hideG s (L.take i) ++ (if L[i].name = s then [] else [L[i]]) := by
  rw [take_next hi]
  congr 1
  unfold hasName
  by_cases h : L[i].name = s <;> simp [h]
section
noncomputable def cxHdS : Cx := { P := Tryz.prog, tys := tys, C := [(35, kEntZ), (39, kParseZ), (88, kFmtF), (86, kProfOf)], hty := tysOk, hC := COk.cons cEntZS (COk.cons cParseZS (COk.cons cFmtFS (COk.cons cProfOfS (COk.nil _)))) }
theorem cxHdS_t : cxHdS.tys = tys := rfl
theorem cxHdS_c : cxHdS.C = [(35, kEntZ), (39, kParseZ), (88, kFmtF), (86, kProfOf)] := rfl
attribute [local go_sem] cxHdS_t cxHdS_c kEntZ kParseZ kFmtF kProfOf
theorem cHideS : Cn Tryz.prog 42 kHide := by
  refine Cn.pur Tryz.func42 (by kernel_rfl) rfl fun d x hx => ?_
  obtain ⟨⟨N, C⟩, s⟩ := x
  obtain ⟨⟨hN, hs⟩, hC⟩ := hx
  simp only at hN hs hC ⊢
  have hE0 := entriesOf_len N C
  have hwf := wfE_map (N := N) (C := C) hN hC (hideG_len s)
  refine Holds.go (c := cxHdS) Tryz.func42 rfl Tryz.results42 Tryz.ntmps42 (by omega) (by simp) rfl ?_
  intro X0 w0
  (repeat' (first | refine WP.seq ?_ | refine WP.block ?_ | ((first | refine WP.region ?_ | refine WP.condW ?_ | refine WP.ret ?_ | refine WP.exit ?_ | refine WP.skip ?_); simp only [go_sem, tyAll, Nat.reduceAdd, Nat.reduceLT, Nat.reduceLeDiff, Nat.reduceEqDiff, Nat.reduceMul, Nat.reduceSub, Nat.reduceGT, reduceIte, Int.reduceNeg, Int.reduceToNat]) | ((first | refine WP.flowW 10 fl2237a947e0 [56, 57, 58, 59, 60, 61, 62, 63, 64, 65] [65] [] (by decide +kernel) (by kernel_rfl) (by kernel_rfl) (by kernel_rfl) ?_); simp only [go_sem, tyAll, Nat.reduceAdd, Nat.reduceLT, Nat.reduceLeDiff, Nat.reduceEqDiff, Nat.reduceMul, Nat.reduceSub, Nat.reduceGT, reduceIte, Int.reduceNeg, Int.reduceToNat]) |  refine And.intro ?_ ?_ | intro _))
  all_goals first | omega | (simp only; omega) | exact Nat.le_trans (hs _ ‹_›) (by omega) | exact ⟨_, _, _, rfl⟩ | skip
  refine WP.loop (fun k : Nat => ⟨[(1, .v (.string s)), (4, .ptr 4 0 0 0), (5, .own 14), (6, .sl 2 ((entriesOf N C).map encEntry)), (7, .v (.int .i64 k))], [(4, .box 29 [.v (.slice none 0 0), .v (.slice none 0 0)]), (14, .sl 54 2 ((((entriesOf N C).take k).filterMap (mapG (hideG s))).map encEntry))]⟩)
    (fun k => k ≤ (entriesOf N C).length) (fun k => (entriesOf N C).length - k) 0 (by simp) ?_ ?_
  · (simp only [go_sem, tyAll, Nat.reduceAdd, Nat.reduceLT, Nat.reduceLeDiff, Nat.reduceEqDiff, Nat.reduceMul, Nat.reduceSub, Nat.reduceGT, reduceIte, Int.reduceNeg, Int.reduceToNat] <;> (first | rfl | exact ⟨rfl, rfl⟩ | exact ⟨rfl, rfl, rfl⟩ | exact ⟨rfl, rfl, rfl, rfl⟩ | exact ⟨rfl, rfl, rfl, rfl, rfl⟩ | exact ⟨⟨rfl, rfl⟩, rfl⟩ | simp))
  intro k hk
  have hfl := List.length_filterMap_le (mapG (hideG s)) ((entriesOf N C).take k)
  rw [List.length_take] at hfl
  by_cases hlt : k < (entriesOf N C).length
  · have hli : (k : Int) < (entriesOf N C).length := by omega
    have h1 := rowAt_map encEntry (entriesOf N C) k hlt
    obtain ⟨z1, z2, z3⟩ := ent_sizes hN (List.getElem_mem hlt)
    have hsu := fm_succ (mapG (hideG s)) hlt
    have hfr : (parseF (entriesOf N C)[k].stack).getD [] = frsE (entriesOf N C)[k] := rfl
    (repeat' (first | refine WP.seq ?_ | refine WP.block ?_ | ((first | refine WP.region ?_ | refine WP.condW ?_ | refine WP.ret ?_ | refine WP.exit ?_ | refine WP.skip ?_); simp only [go_sem, hli, h1, encEntry, hfr, tyAll, Nat.reduceAdd, Nat.reduceLT, Nat.reduceLeDiff, Nat.reduceEqDiff, Nat.reduceMul, Nat.reduceSub, Nat.reduceGT, reduceIte, Int.reduceNeg, Int.reduceToNat]) | ((first | refine WP.flowW 10 fl2237a947e0 [56, 57, 58, 59, 60, 61, 62, 63, 64, 65] [65] [] (by decide +kernel) (by kernel_rfl) (by kernel_rfl) (by kernel_rfl) ?_); simp only [go_sem, hli, h1, encEntry, hfr, tyAll, Nat.reduceAdd, Nat.reduceLT, Nat.reduceLeDiff, Nat.reduceEqDiff, Nat.reduceMul, Nat.reduceSub, Nat.reduceGT, reduceIte, Int.reduceNeg, Int.reduceToNat]) |  refine And.intro ?_ ?_ | intro _))
    all_goals first | omega | (simp only; omega) | exact ⟨_, _, _, rfl⟩ | skip
    generalize hF : frsE (entriesOf N C)[k] = F at *
    refine WP.loop (fun i : Nat => ⟨[(1, .v (.string s)), (4, .ptr 4 0 0 0), (5, .own 14), (6, .sl 2 ((entriesOf N C).map encEntry)), (7, .v (.int .i64 k)), (8, .sl 2 (F.map encFrame)), (10, .own 32), (11, .v (.int .i64 i))],
        [(4, .box 29 [.v (.slice none 0 0), .v (.slice none 0 0)]), (14, .sl 54 2 ((((entriesOf N C).take k).filterMap (mapG (hideG s))).map encEntry)), (32, .sl 46 2 ((hideG s (F.take i)).map encFrame))]⟩)
      (fun i => i ≤ F.length) (fun i => F.length - i) 0 (by simp) ?_ ?_
    · (simp only [go_sem, tyAll, Nat.reduceAdd, Nat.reduceLT, Nat.reduceLeDiff, Nat.reduceEqDiff, Nat.reduceMul, Nat.reduceSub, Nat.reduceGT, reduceIte, Int.reduceNeg, Int.reduceToNat] <;> (first | rfl | exact ⟨rfl, rfl⟩ | exact ⟨rfl, rfl, rfl⟩ | exact ⟨rfl, rfl, rfl, rfl⟩ | exact ⟨rfl, rfl, rfl, rfl, rfl⟩ | exact ⟨⟨rfl, rfl⟩, rfl⟩ | simp))
    intro i hi
    have hgl := hideG_len s (F.take i)
    rw [List.length_take] at hgl
    by_cases hil : i < F.length
    · have hii : (i : Int) < F.length := by omega
      have h2 := rowAt_map encFrame F i hil
      have hsn := hide_snoc s hil
      by_cases hq : F[i].name = s
      · rw [if_pos hq, List.append_nil] at hsn
        (repeat' (first | refine WP.seq ?_ | refine WP.block ?_ | ((first | refine WP.region ?_ | refine WP.condW ?_ | refine WP.ret ?_ | refine WP.exit ?_ | refine WP.skip ?_); simp only [go_sem, hii, h2, encFrame, hq, tyAll, Nat.reduceAdd, Nat.reduceLT, Nat.reduceLeDiff, Nat.reduceEqDiff, Nat.reduceMul, Nat.reduceSub, Nat.reduceGT, reduceIte, Int.reduceNeg, Int.reduceToNat]) | ((first | refine WP.flowW 10 fl2237a947e0 [56, 57, 58, 59, 60, 61, 62, 63, 64, 65] [65] [] (by decide +kernel) (by kernel_rfl) (by kernel_rfl) (by kernel_rfl) ?_); simp only [go_sem, hii, h2, encFrame, hq, tyAll, Nat.reduceAdd, Nat.reduceLT, Nat.reduceLeDiff, Nat.reduceEqDiff, Nat.reduceMul, Nat.reduceSub, Nat.reduceGT, reduceIte, Int.reduceNeg, Int.reduceToNat]) |  refine And.intro ?_ ?_ | intro _))
        all_goals first | omega | (simp only; omega) | exact ⟨i + 1, by omega, by omega, by rw [hsn]; (first | rfl | exact ⟨rfl, rfl⟩ | exact ⟨rfl, rfl, rfl⟩ | exact ⟨rfl, rfl, rfl, rfl⟩ | exact ⟨rfl, rfl, rfl, rfl, rfl⟩ | exact ⟨⟨rfl, rfl⟩, rfl⟩ | simp)⟩ | skip
        all_goals trace_state
      · rw [if_neg hq] at hsn
        (repeat' (first | refine WP.seq ?_ | refine WP.block ?_ | ((first | refine WP.region ?_ | refine WP.condW ?_ | refine WP.ret ?_ | refine WP.exit ?_ | refine WP.skip ?_); simp only [go_sem, hii, h2, encFrame, hq, tyAll, Nat.reduceAdd, Nat.reduceLT, Nat.reduceLeDiff, Nat.reduceEqDiff, Nat.reduceMul, Nat.reduceSub, Nat.reduceGT, reduceIte, Int.reduceNeg, Int.reduceToNat]) | ((first | refine WP.flowW 10 fl2237a947e0 [56, 57, 58, 59, 60, 61, 62, 63, 64, 65] [65] [] (by decide +kernel) (by kernel_rfl) (by kernel_rfl) (by kernel_rfl) ?_); simp only [go_sem, hii, h2, encFrame, hq, tyAll, Nat.reduceAdd, Nat.reduceLT, Nat.reduceLeDiff, Nat.reduceEqDiff, Nat.reduceMul, Nat.reduceSub, Nat.reduceGT, reduceIte, Int.reduceNeg, Int.reduceToNat]) |  refine And.intro ?_ ?_ | intro _))
        all_goals first | omega | (simp only; omega) | exact ⟨_, _, _, rfl⟩ | exact ⟨i + 1, by omega, by omega, by rw [hsn, List.map_append]; simp [encFrame]⟩ | skip
        all_goals trace_state
    · have hge : ¬ (i : Int) < F.length := by omega
      have hie : i = F.length := by omega
      subst hie
      rw [List.take_length]
      have hgs : ∀ f ∈ hideG s F, f.name.size ≤ 1099511627776 := fun f hf => Nat.le_trans (z3 f (List.mem_filter.1 hf).1) (by omega)
      have hgF := hideG_len s F
      by_cases h0 : hideG s F = []
      · have hmn : mapG (hideG s) (entriesOf N C)[k] = none := if_pos (by rw [hF]; exact h0)
        rw [hmn, Option.toList_none, List.append_nil] at hsu
        (repeat' (first | refine WP.seq ?_ | refine WP.block ?_ | ((first | refine WP.region ?_ | refine WP.condW ?_ | refine WP.ret ?_ | refine WP.exit ?_ | refine WP.skip ?_); simp only [go_sem, hge, h0, tyAll, Nat.reduceAdd, Nat.reduceLT, Nat.reduceLeDiff, Nat.reduceEqDiff, Nat.reduceMul, Nat.reduceSub, Nat.reduceGT, reduceIte, Int.reduceNeg, Int.reduceToNat]) | ((first | refine WP.flowW 10 fl2237a947e0 [56, 57, 58, 59, 60, 61, 62, 63, 64, 65] [65] [] (by decide +kernel) (by kernel_rfl) (by kernel_rfl) (by kernel_rfl) ?_); simp only [go_sem, hge, h0, tyAll, Nat.reduceAdd, Nat.reduceLT, Nat.reduceLeDiff, Nat.reduceEqDiff, Nat.reduceMul, Nat.reduceSub, Nat.reduceGT, reduceIte, Int.reduceNeg, Int.reduceToNat]) |  refine And.intro ?_ ?_ | intro _))
        all_goals first | omega | (simp only; omega) | exact ⟨k + 1, by omega, by omega, by rw [hsu]; (first | rfl | exact ⟨rfl, rfl⟩ | exact ⟨rfl, rfl, rfl⟩ | exact ⟨rfl, rfl, rfl, rfl⟩ | exact ⟨rfl, rfl, rfl, rfl, rfl⟩ | exact ⟨⟨rfl, rfl⟩, rfl⟩ | simp)⟩ | skip
        all_goals trace_state
      · have hmn : mapG (hideG s) (entriesOf N C)[k] = some ⟨fmtF (hideG s F), (entriesOf N C)[k].count⟩ := by unfold mapG; rw [hF, if_neg h0]
        rw [hmn, Option.toList_some] at hsu
        have hp0 : (0 : Int) < (hideG s F).length := by have := List.length_pos_iff.2 h0; omega
        (repeat' (first | refine WP.seq ?_ | refine WP.block ?_ | ((first | refine WP.region ?_ | refine WP.condW ?_ | refine WP.ret ?_ | refine WP.exit ?_ | refine WP.skip ?_); simp only [go_sem, hge, hp0, h1, hli, encEntry, tyAll, Nat.reduceAdd, Nat.reduceLT, Nat.reduceLeDiff, Nat.reduceEqDiff, Nat.reduceMul, Nat.reduceSub, Nat.reduceGT, reduceIte, Int.reduceNeg, Int.reduceToNat]) | ((first | refine WP.flowW 10 fl2237a947e0 [56, 57, 58, 59, 60, 61, 62, 63, 64, 65] [65] [] (by decide +kernel) (by kernel_rfl) (by kernel_rfl) (by kernel_rfl) ?_); simp only [go_sem, hge, hp0, h1, hli, encEntry, tyAll, Nat.reduceAdd, Nat.reduceLT, Nat.reduceLeDiff, Nat.reduceEqDiff, Nat.reduceMul, Nat.reduceSub, Nat.reduceGT, reduceIte, Int.reduceNeg, Int.reduceToNat]) |  refine And.intro ?_ ?_ | intro _))
        all_goals first | omega | (simp only; omega) | exact hgs _ ‹_› | exact ⟨_, _, _, rfl⟩ | exact ⟨k + 1, by omega, by omega, by rw [hsu, List.map_append]; simp [encEntry]⟩ | skip
        all_goals trace_state
  · have hge : ¬ (k : Int) < (entriesOf N C).length := by omega
    have hke : k = (entriesOf N C).length := by omega
    subst hke
    rw [List.take_length]
    (repeat' (first | refine WP.seq ?_ | refine WP.block ?_ | ((first | refine WP.region ?_ | refine WP.condW ?_ | refine WP.ret ?_ | refine WP.exit ?_ | refine WP.skip ?_); simp only [go_sem, hge, mapP, tyAll, Nat.reduceAdd, Nat.reduceLT, Nat.reduceLeDiff, Nat.reduceEqDiff, Nat.reduceMul, Nat.reduceSub, Nat.reduceGT, reduceIte, Int.reduceNeg, Int.reduceToNat]) | ((first | refine WP.flowW 10 fl2237a947e0 [56, 57, 58, 59, 60, 61, 62, 63, 64, 65] [65] [] (by decide +kernel) (by kernel_rfl) (by kernel_rfl) (by kernel_rfl) ?_); simp only [go_sem, hge, mapP, tyAll, Nat.reduceAdd, Nat.reduceLT, Nat.reduceLeDiff, Nat.reduceEqDiff, Nat.reduceMul, Nat.reduceSub, Nat.reduceGT, reduceIte, Int.reduceNeg, Int.reduceToNat]) |  refine And.intro ?_ ?_ | intro _))
    all_goals first | omega | exact hwf.1 | exact hwf.2 _ ‹_› | exact ⟨_, _, _, rfl⟩ | exact ⟨_, _, rfl, _, _, rfl, rfl⟩ | exact if_neg (by omega) | exact ⟨_, _, if_neg (by omega)⟩ | exact ⟨_, _, rfl⟩ | skip
    all_goals trace_state
end
/-! ## of the program -/
def kHidC : Ctr := len [] [0] (fun args obs => (decFrame (oR obs 900000), capS args 1)) (fun x => [.own 900000, .rptr 1 [[.v (.string x.2)]] 0 0]) (fun x => [(900000, .sl 46 2 (x.1.map encFrame))]) (fun x => x.1.length ≤ 4398046511104)
  (fun d _ => .own d) (fun d x => [(d, .sl 46 2 ((hideG x.2 x.1).map encFrame))]) (fun _ => [])
section
noncomputable def cxHidC : Cx := { P := Tryz.prog, tys := tys, C := [(92, kDel)], hty := tysOk, hC := COk.cons cDel (COk.nil _) }
theorem cxHidC_t : cxHidC.tys = tys := rfl
theorem cxHidC_c : cxHidC.C = [(92, kDel)] := rfl
attribute [local go_sem] cxHidC_t cxHidC_c kDel
theorem cHidC : Cn Tryz.prog 91 kHidC := by
  refine Cn.len Tryz.func91 (by kernel_rfl) rfl fun d x hd hx => ?_
  obtain ⟨L, s⟩ := x
  simp only at hx ⊢
  refine HoldsL.go (c := cxHidC) Tryz.func91 rfl Tryz.results91 Tryz.ntmps91 (by omega) (by simp) rfl (by simp <;> omega) (by simp [SV.owns2, SV.owns, SV.owns1]) (by simp) rfl rfl (by simp) ?_
  intro X0 M w0
  (repeat' (first | refine WP.seq ?_ | refine WP.block ?_ | ((first | refine WP.region ?_ | refine WP.condW ?_ | refine WP.ret ?_ | refine WP.exit ?_ | refine WP.skip ?_); simp only [go_sem, tyAll, Nat.reduceAdd, Nat.reduceLT, Nat.reduceLeDiff, Nat.reduceEqDiff, Nat.reduceMul, Nat.reduceSub, Nat.reduceGT, reduceIte, Int.reduceNeg, Int.reduceToNat]) |  refine And.intro ?_ ?_ | intro _))
  all_goals first | omega | rfl | skip
  all_goals trace_state
end
def kMapH : Ctr := pur (fun args => (prA args 0, capS args 1)) (fun x => [.agg [.sl 3 (x.1.1.map encNode), .sl 1 (x.1.2.map encI)], .fn 91 [.rptr 1 [[.v (.string x.2)]] 0 0]])
  (fun x => ((x.1.1.length ≤ 1048576 ∧ ∀ n ∈ x.1.1, n.name.size ≤ 1048576) ∧ x.1.2.length ≤ 1048576)) (fun d _ => .agg [.own d, .own (d + 1000)])
  (fun d x => [(d, .sl 157 3 ((mapP (hideG x.2) x.1.1 x.1.2).1.map encNode)), (d + 1000, .sl 3 1 ((mapP (hideG x.2) x.1.1 x.1.2).2.map encI))])
section
noncomputable def cxMapH : Cx := { P := Tryz.prog, tys := tys, C := [(57, kEntZ), (73, kParseF), (119, kFmtF), (77, kProfOf), (91, kHidC)], hty := tysOk, hC := COk.cons cEntZI (COk.cons cParseFI (COk.cons cFmtFI (COk.cons cProfOfI (COk.cons cHidC (COk.nil _))))) }
theorem cxMapH_t : cxMapH.tys = tys := rfl
theorem cxMapH_c : cxMapH.C = [(57, kEntZ), (73, kParseF), (119, kFmtF), (77, kProfOf), (91, kHidC)] := rfl
attribute [local go_sem] cxMapH_t cxMapH_c kEntZ kParseF kFmtF kProfOf kHidC
theorem cMapH : Cn Tryz.prog 83 kMapH := by
  refine Cn.pur Tryz.func83 (by kernel_rfl) rfl fun d x hx => ?_
  obtain ⟨⟨N, C⟩, q⟩ := x
  obtain ⟨⟨hN, hs⟩, hC⟩ := hx
  simp only at hN hs hC ⊢
  have hlen := entriesOf_len N C
  have hgl : ∀ L, (hideG q L).length ≤ L.length := hideG_len q
  generalize hg : hideG q = g at hgl ⊢
  refine Holds.go (c := cxMapH) Tryz.func83 rfl Tryz.results83 Tryz.ntmps83 (by omega) (by simp) rfl ?_
  intro X0 w0
  (repeat' (first | refine WP.seq ?_ | refine WP.block ?_ | ((first | refine WP.region ?_ | refine WP.condW ?_ | refine WP.ret ?_ | refine WP.exit ?_ | refine WP.skip ?_); simp only [go_sem, tyAll, Nat.reduceAdd, Nat.reduceLT, Nat.reduceLeDiff, Nat.reduceEqDiff, Nat.reduceMul, Nat.reduceSub, Nat.reduceGT, reduceIte, Int.reduceNeg, Int.reduceToNat]) | ((first | refine WP.flowW 7 fl7092722584 [33, 34, 35, 36, 37, 38, 39] [39] [] (by decide +kernel) (by kernel_rfl) (by kernel_rfl) (by kernel_rfl) ?_); simp only [go_sem, tyAll, Nat.reduceAdd, Nat.reduceLT, Nat.reduceLeDiff, Nat.reduceEqDiff, Nat.reduceMul, Nat.reduceSub, Nat.reduceGT, reduceIte, Int.reduceNeg, Int.reduceToNat]) |  refine And.intro ?_ ?_ | intro _))
  all_goals first | omega | (simp only; omega) | exact Nat.le_trans (hs _ ‹_›) (by omega) | exact ⟨_, _, _, rfl⟩ | skip
  refine WP.loop (fun k : Nat => ⟨[(1, .fn 91 [.rptr 1 [[.v (.string q)]] 0 0]), (4, .ptr 4 0 0 0), (5, .own 13), (15, .sl 2 ((entriesOf N C).map encEntry)), (16, .v (.int .i64 (entriesOf N C).length)), (17, .v (.int .i64 k))], [(4, .box 29 [.v (.slice none 0 0), .v (.slice none 0 0)]), (13, .sl 54 2 ((((entriesOf N C).take k).filterMap (mapG g)).map encEntry))]⟩)
    (fun k => k ≤ (entriesOf N C).length) (fun k => (entriesOf N C).length - k) 0 (by simp) ?_ ?_
  · (simp only [go_sem, tyAll, Nat.reduceAdd, Nat.reduceLT, Nat.reduceLeDiff, Nat.reduceEqDiff, Nat.reduceMul, Nat.reduceSub, Nat.reduceGT, reduceIte, Int.reduceNeg, Int.reduceToNat] <;> (first | rfl | exact ⟨rfl, rfl⟩ | exact ⟨rfl, rfl, rfl⟩ | exact ⟨rfl, rfl, rfl, rfl⟩ | exact ⟨rfl, rfl, rfl, rfl, rfl⟩ | exact ⟨⟨rfl, rfl⟩, rfl⟩ | simp))
  intro k hk
  have hfl := List.length_filterMap_le (mapG g) ((entriesOf N C).take k)
  rw [List.length_take] at hfl
  by_cases hlt : k < (entriesOf N C).length
  · have hli : (k : Int) < (entriesOf N C).length := by omega
    have h1 := rowAt_map encEntry (entriesOf N C) k hlt
    have hm := List.getElem_mem hlt
    obtain ⟨z1, z2, z3⟩ := ent_sizes hN hm
    have hsu := fm_succ (mapG g) hlt
    have hfr : (parseF (entriesOf N C)[k].stack).getD [] = frsE (entriesOf N C)[k] := rfl
    have hgk := hgl (frsE (entriesOf N C)[k])
    have hgs : ∀ f ∈ g (frsE (entriesOf N C)[k]), f.name.size ≤ 1099511627776 := by
      intro f hf
      have : f ∈ frsE (entriesOf N C)[k] := by
        subst hg
        exact (List.mem_filter.1 hf).1
      have := z3 f this
      omega
    by_cases h0 : g (frsE (entriesOf N C)[k]) = []
    · have hmn : mapG g (entriesOf N C)[k] = none := if_pos h0
      rw [hmn, Option.toList_none, List.append_nil] at hsu
      (repeat' (first | refine WP.seq ?_ | refine WP.block ?_ | ((first | refine WP.region ?_ | refine WP.condW ?_ | refine WP.ret ?_ | refine WP.exit ?_ | refine WP.skip ?_); simp only [go_sem, hli, h1, encEntry, hfr, hg, h0, tyAll, Nat.reduceAdd, Nat.reduceLT, Nat.reduceLeDiff, Nat.reduceEqDiff, Nat.reduceMul, Nat.reduceSub, Nat.reduceGT, reduceIte, Int.reduceNeg, Int.reduceToNat]) | ((first | refine WP.flowW 7 fl7092722584 [33, 34, 35, 36, 37, 38, 39] [39] [] (by decide +kernel) (by kernel_rfl) (by kernel_rfl) (by kernel_rfl) ?_); simp only [go_sem, hli, h1, encEntry, hfr, hg, h0, tyAll, Nat.reduceAdd, Nat.reduceLT, Nat.reduceLeDiff, Nat.reduceEqDiff, Nat.reduceMul, Nat.reduceSub, Nat.reduceGT, reduceIte, Int.reduceNeg, Int.reduceToNat]) |  refine And.intro ?_ ?_ | intro _))
      all_goals first | omega | (simp only; omega) | exact ⟨_, _, _, rfl⟩ | skip
      all_goals first | exact ⟨k + 1, by omega, by omega, by simp only [hsu]; (first | rfl | exact ⟨rfl, rfl⟩ | exact ⟨rfl, rfl, rfl⟩ | exact ⟨rfl, rfl, rfl, rfl⟩ | exact ⟨rfl, rfl, rfl, rfl, rfl⟩ | exact ⟨⟨rfl, rfl⟩, rfl⟩ | simp)⟩ | trace_state
    · have hmn : mapG g (entriesOf N C)[k] = some ⟨fmtF (g (frsE (entriesOf N C)[k])), (entriesOf N C)[k].count⟩ := if_neg h0
      rw [hmn, Option.toList_some] at hsu
      have hp0 : (0 : Int) < (g (frsE (entriesOf N C)[k])).length := by have := List.length_pos_iff.2 h0; omega
      (repeat' (first | refine WP.seq ?_ | refine WP.block ?_ | ((first | refine WP.region ?_ | refine WP.condW ?_ | refine WP.ret ?_ | refine WP.exit ?_ | refine WP.skip ?_); simp only [go_sem, hli, h1, encEntry, hfr, hg, hp0, tyAll, Nat.reduceAdd, Nat.reduceLT, Nat.reduceLeDiff, Nat.reduceEqDiff, Nat.reduceMul, Nat.reduceSub, Nat.reduceGT, reduceIte, Int.reduceNeg, Int.reduceToNat]) | ((first | refine WP.flowW 7 fl7092722584 [33, 34, 35, 36, 37, 38, 39] [39] [] (by decide +kernel) (by kernel_rfl) (by kernel_rfl) (by kernel_rfl) ?_); simp only [go_sem, hli, h1, encEntry, hfr, hg, hp0, tyAll, Nat.reduceAdd, Nat.reduceLT, Nat.reduceLeDiff, Nat.reduceEqDiff, Nat.reduceMul, Nat.reduceSub, Nat.reduceGT, reduceIte, Int.reduceNeg, Int.reduceToNat]) |  refine And.intro ?_ ?_ | intro _))
      all_goals first | omega | (simp only; omega) | exact hgs _ ‹_› | exact ⟨_, _, _, rfl⟩ | skip
      all_goals first | exact ⟨k + 1, by omega, by omega, by simp only [hsu, List.map_append]; (first | rfl | exact ⟨rfl, rfl⟩ | exact ⟨rfl, rfl, rfl⟩ | exact ⟨rfl, rfl, rfl, rfl⟩ | exact ⟨rfl, rfl, rfl, rfl, rfl⟩ | exact ⟨⟨rfl, rfl⟩, rfl⟩ | simp)⟩ | trace_state
  · have hge : ¬ (k : Int) < (entriesOf N C).length := by omega
    have hke : k = (entriesOf N C).length := by omega
    subst hke
    have hwf := wfE_map (N := N) (C := C) hN hC hgl
    rw [List.take_length]
    (repeat' (first | refine WP.seq ?_ | refine WP.block ?_ | ((first | refine WP.region ?_ | refine WP.condW ?_ | refine WP.ret ?_ | refine WP.exit ?_ | refine WP.skip ?_); simp only [go_sem, hge, mapP, tyAll, Nat.reduceAdd, Nat.reduceLT, Nat.reduceLeDiff, Nat.reduceEqDiff, Nat.reduceMul, Nat.reduceSub, Nat.reduceGT, reduceIte, Int.reduceNeg, Int.reduceToNat]) | ((first | refine WP.flowW 7 fl7092722584 [33, 34, 35, 36, 37, 38, 39] [39] [] (by decide +kernel) (by kernel_rfl) (by kernel_rfl) (by kernel_rfl) ?_); simp only [go_sem, hge, mapP, tyAll, Nat.reduceAdd, Nat.reduceLT, Nat.reduceLeDiff, Nat.reduceEqDiff, Nat.reduceMul, Nat.reduceSub, Nat.reduceGT, reduceIte, Int.reduceNeg, Int.reduceToNat]) |  refine And.intro ?_ ?_ | intro _))
    all_goals first | omega | exact hwf.1 | exact hwf.2 _ ‹_› | exact ⟨_, _, _, rfl⟩ | exact ⟨_, _, rfl, _, _, rfl, rfl⟩ | exact if_neg (by omega) | exact ⟨_, _, if_neg (by omega)⟩ | exact ⟨_, _, rfl⟩ | skip
    all_goals trace_state
end
section
noncomputable def cxHideI : Cx := { P := Tryz.prog, tys := tys, C := [(83, kMapH)], hty := tysOk, hC := COk.cons cMapH (COk.nil _) }
theorem cxHideI_t : cxHideI.tys = tys := rfl
theorem cxHideI_c : cxHideI.C = [(83, kMapH)] := rfl
attribute [local go_sem] cxHideI_t cxHideI_c kMapH
attribute [local go_sem] kMapH
theorem cHideI : Cn Tryz.prog 37 kHide := by
  refine Cn.pur Tryz.func37 (by kernel_rfl) rfl fun d x hx => ?_
  obtain ⟨⟨N, C⟩, q⟩ := x
  obtain ⟨⟨hN, hs⟩, hC⟩ := hx
  simp only at hN hs hC ⊢
  refine Holds.go (c := cxHideI) Tryz.func37 rfl Tryz.results37 Tryz.ntmps37 (by omega) (by simp) rfl ?_
  intro X0 w0
  (repeat' (first | refine WP.seq ?_ | refine WP.block ?_ | ((first | refine WP.region ?_ | refine WP.condW ?_ | refine WP.ret ?_ | refine WP.exit ?_ | refine WP.skip ?_); simp only [go_sem, tyAll, Nat.reduceAdd, Nat.reduceLT, Nat.reduceLeDiff, Nat.reduceEqDiff, Nat.reduceMul, Nat.reduceSub, Nat.reduceGT, reduceIte, Int.reduceNeg, Int.reduceToNat]) |  refine And.intro ?_ ?_ | intro _))
  all_goals first | omega | exact hs _ ‹_› | exact ⟨_, _, _, rfl⟩ | exact ⟨_, _, rfl, _, _, rfl, rfl⟩ | exact if_neg (by omega) | exact ⟨_, _, if_neg (by omega)⟩ | exact ⟨_, _, rfl⟩ | skip
  all_goals trace_state
end

end
section
open Go.Vc
set_option linter.unusedSimpArgs false
set_option linter.unusedVariables false
set_option maxHeartbeats 1000000
set_option maxRecDepth 10000
attribute [local irreducible] Go.Vc.WP
attribute [local go_sem] cx0_t cx0_c
open Go.Pl
attribute [local go_sem] isV_Node isV_It isV_Entry decNode_enc decFrame_enc oneFrame_enc stkA oneFrame_ab oneNode_abc decI_enc prA encI_inj decEntry_enc decU_enc
def kHidZ : Ctr := pur (fun args => (prA args 0, aS args 1)) (fun x => [.agg [.sl 3 (x.1.1.map encNode), .sl 1 (x.1.2.map encI)], .v (.string x.2)])
  (fun x => (x.1.1.length ≤ 1048576 ∧ ∀ n ∈ x.1.1, n.name.size ≤ 1048576) ∧ x.1.2.length ≤ 1048576) (fun _ x => .agg [.sl 3 ((mapP (hideG x.2) x.1.1 x.1.2).1.map encNode), .sl 1 ((mapP (hideG x.2) x.1.1 x.1.2).2.map encI)]) (fun _ _ => [])
theorem cHidZ : Cn Tryz.prog 37 kHidZ := Cn.frozenA (fun x => allV_Node _) (fun x => allV_I _) cHideI
theorem cFocSZ : Cn Tryz.prog 40 kFocZ := Cn.frozenA (fun x => allV_Node _) (fun x => allV_I _) cFocS
def kTopZ : Ctr := pur (fun args => (prA args 0, aI args 1)) (fun x => [.agg [.sl 3 (x.1.1.map encNode), .sl 1 (x.1.2.map encI)], .v (.int .i64 x.2)])
  (fun x => (x.1.1.length ≤ 1048576 ∧ ∀ n ∈ x.1.1, n.name.size ≤ 1048576) ∧ x.1.2.length ≤ 1048576) (fun _ x => .agg [.sl 3 ((topP x.2 x.1.1 x.1.2).1.map encNode), .sl 1 ((topP x.2 x.1.1 x.1.2).2.map encI)]) (fun _ _ => [])
theorem cTopZ : Cn Tryz.prog 38 kTopZ := Cn.frozenA (fun x => allV_Node _) (fun x => allV_I _) cTopFramesI
def nmG (a : Nat) : ByteArray := match a with
  | 0 => ⟨#[102]⟩
  | 1 => ⟨#[103, 103]⟩
  | _ => ⟨#[104]⟩
theorem row_nmG {q : Nat} (h : q < 3) : Go.Vc.rowAt [[SV.v (Value.string ⟨#[102]⟩)], [SV.v (Value.string ⟨#[103, 103]⟩)], [SV.v (Value.string ⟨#[104]⟩)]] q = [SV.v (Value.string (nmG q))] := by
  match q, h with
  | 0, _ => rfl
  | 1, _ => rfl
  | 2, _ => rfl
theorem nmG_main (q : Nat) : nmG q ≠ nMain := by
  unfold nmG
  split <;> decide
section
noncomputable def cxLHid : Cx := { P := Tryz.prog, tys := tys, C := [(12, kBig), (30, kAt), (13, kDrawZ), (37, kHidZ), (38, kTopZ), (35, kEntZ), (39, kParseZ), (15, kTotal), (40, kFocZ), (36, kSame)], hty := tysOk, hC := COk.cons cBig (COk.cons cAt (COk.cons cDrawZ (COk.cons cHidZ (COk.cons cTopZ (COk.cons cEntZS (COk.cons cParseZS (COk.cons cTotalS (COk.cons cFocSZ (COk.cons cSame (COk.nil _)))))))))) }
theorem cxLHid_t : cxLHid.tys = tys := rfl
theorem cxLHid_c : cxLHid.C = [(12, kBig), (30, kAt), (13, kDrawZ), (37, kHidZ), (38, kTopZ), (35, kEntZ), (39, kParseZ), (15, kTotal), (40, kFocZ), (36, kSame)] := rfl
attribute [local go_sem] cxLHid_t cxLHid_c kBig kAt kDrawZ kHidZ kTopZ kEntZ kParseZ kTotal kFocZ kSame
theorem lawHidden (b : List Int) (hb : b.length ≤ maxLen) (hz : ∀ z ∈ b, IntKind.u8.min ≤ z ∧ z ≤ IntKind.u8.max) : Holds Tryz.prog 8 [.sl 1 (b.map encU)] (.v (.bool true)) [] := by
  have hm : maxLen = 9223372036854775807 := rfl
  have hz' : ∀ z ∈ b, 0 ≤ z ∧ z ≤ 255 := fun z h => hz z h
  refine Holds.go (c := cxLHid) Tryz.func8 rfl Tryz.results8 Tryz.ntmps8 (by omega) (by simp) rfl ?_
  intro X0 w0
  by_cases hbig : 1048576 < (b.length : Int)
  · (repeat' (first | refine WP.seq ?_ | refine WP.block ?_ | ((first | refine WP.region ?_ | refine WP.condW ?_ | refine WP.ret ?_ | refine WP.exit ?_ | refine WP.skip ?_); simp only [go_sem, hbig, tyAll, Nat.reduceAdd, Nat.reduceLT, Nat.reduceLeDiff, Nat.reduceEqDiff, Nat.reduceMul, Nat.reduceSub, Nat.reduceGT, reduceIte, Int.reduceNeg, Int.reduceToNat]) | ((first | refine WP.drawW 26 (by decide +kernel) (by kernel_rfl) ?_); simp only [go_sem, hbig, tyAll, Nat.reduceAdd, Nat.reduceLT, Nat.reduceLeDiff, Nat.reduceEqDiff, Nat.reduceMul, Nat.reduceSub, Nat.reduceGT, reduceIte, Int.reduceNeg, Int.reduceToNat]) |  refine And.intro ?_ ?_ | intro _))
    all_goals first | omega | skip
    all_goals trace_state
  have hb1 : b.length ≤ 1048576 := by omega
  have hdr := drA_ok hb1 hz'
  have hnm := drp_names hdr
  have hok := hdr.ok
  have hen := hdr.ents
  obtain ⟨hl1, hl2⟩ := drp_lens hdr
  have hat := atV_bd hz' 0
  have hq0 : 0 ≤ (atV b 0).tmod 3 := Int.tmod_nonneg _ hat.1
  have hq1 : (atV b 0).tmod 3 < 3 := Int.tmod_lt_of_pos _ (by omega)
  obtain ⟨q, hq⟩ : ∃ q : Nat, (atV b 0).tmod 3 = q := ⟨_, (Int.toNat_of_nonneg hq0).symm⟩
  have hq3 : q < 3 := by omega
  have hqi : (q : Int) < 3 := by omega
  have hrow := row_nmG hq3
  have hsm := nmG_main q
  generalize nmG q = s at hrow hsm
  have hat1 := atV_bd hz' 1
  have hn0 : 0 ≤ (atV b 1).tmod 4 := Int.tmod_nonneg _ hat1.1
  have hn1 : (atV b 1).tmod 4 < 4 := Int.tmod_lt_of_pos _ (by omega)
  generalize hn : (atV b 1).tmod 4 = n0 at hn0 hn1
  obtain ⟨n, hnn⟩ : ∃ n, n = 1 + n0 := ⟨_, rfl⟩
  have hnn := hnn.symm
  have h1n : 1 ≤ n := by omega
  have hw1 : (drA b).1.length ≤ 1048576 := by omega
  have hw2 : (drA b).2.length ≤ 1048576 := by omega
  have hnm' : ∀ n ∈ (drA b).1, n.name.size ≤ 1048576 := fun n hn => Nat.le_trans (hnm n hn) (by omega)
  have eT : topP n (drA b).1 (drA b).2 = mapP (topF n) (drA b).1 (drA b).2 := if_neg (by omega)
  have hA := mapP_sq (a := 28) (hideG_fine s) (hideG_len s) (N := (drA b).1) (C := (drA b).2) (by omega) (by omega)
  have hT := mapP_sq (a := 28) (topF_fine n) (topF_len n) (N := (drA b).1) (C := (drA b).2) (by omega) (by omega)
  have nA : ∀ n ∈ (mapP (hideG s) (drA b).1 (drA b).2).1, n.name.size ≤ 8 := profileOf_names _
  have nT : ∀ x ∈ (mapP (topF n) (drA b).1 (drA b).2).1, x.name.size ≤ 8 := profileOf_names _
  have f1 := hide_focus s (drA b).1 (drA b).2
  have f2 : totalOf (mapP (hideG s) (drA b).1 (drA b).2).1 (mapP (hideG s) (drA b).1 (drA b).2).2 = totalOf (drA b).1 (drA b).2 := mapP_total (hideG_fine s) fun e he => (hen e he).hide hsm
  have f3 : totalOf (mapP (topF n) (drA b).1 (drA b).2).1 (mapP (topF n) (drA b).1 (drA b).2).2 = totalOf (drA b).1 (drA b).2 := mapP_total (topF_fine n) fun e he => (hen e he).top h1n
  obtain ⟨U, u1, u2, u3⟩ := mapP_twice (topF_fine n) (topF_twice n) (drA b).1 (drA b).2
  have okT := mapP_ok (topF_fine n) (drA b).1 (drA b).2
  have f4 : ∀ e ∈ entriesOf (mapP (topF n) (drA b).1 (drA b).2).1 (mapP (topF n) (drA b).1 (drA b).2).2, e.stack.size ≤ 100000 ∧ ((parseF e.stack).getD []).length ≤ n := fun e he => by
    obtain ⟨x, hx, hf⟩ := mapP_frs (topF_fine n) he
    have h1 := entriesOf_size he
    refine ⟨by omega, ?_⟩
    show (frsE e).length ≤ n
    rw [hf]
    unfold topF
    rw [List.length_take]; omega
  generalize eA : mapP (hideG s) (drA b).1 (drA b).2 = A at *
  generalize eB : mapP (topF n) (drA b).1 (drA b).2 = B at *
  have hAF := mapP_sq (a := 784) (pick_fine s true) (pick_len s true) (N := A.1) (C := A.2) (by omega) (by omega)
  have nAF : ∀ n ∈ (mapP (pick s true) A.1 A.2).1, n.name.size ≤ 8 := profileOf_names _
  have eU : topP n B.1 B.2 = U := by rw [← u1]; exact if_neg (by omega)
  have hU := mapP_sq (a := 784) (topF_fine n) (topF_len n) (N := B.1) (C := B.2) (by omega) (by omega)
  have nU : ∀ x ∈ (mapP (topF n) B.1 B.2).1, x.name.size ≤ 8 := profileOf_names _
  rw [u1] at hU nU
  have sm : sameP U B = true := by unfold sameP; rw [u2, okT, u3]; simp
  generalize eAF : mapP (pick s true) A.1 A.2 = AF at *
  have hlenE := entriesOf_len B.1 B.2
  generalize eE : entriesOf B.1 B.2 = E at *
  obtain ⟨A1, A2⟩ := A
  obtain ⟨B1, B2⟩ := B
  obtain ⟨U1, U2⟩ := U
  obtain ⟨F1, F2⟩ := AF
  simp only at *
  (repeat' (first | refine WP.seq ?_ | refine WP.block ?_ | ((first | refine WP.region ?_ | refine WP.condW ?_ | refine WP.ret ?_ | refine WP.exit ?_ | refine WP.skip ?_); simp only [go_sem, hbig, hq, hqi, hrow, eA, hn, hnn, eT, eE, tyAll, Nat.reduceAdd, Nat.reduceLT, Nat.reduceLeDiff, Nat.reduceEqDiff, Nat.reduceMul, Nat.reduceSub, Nat.reduceGT, reduceIte, Int.reduceNeg, Int.reduceToNat]) | ((first | refine WP.drawW 26 (by decide +kernel) (by kernel_rfl) ?_); simp only [go_sem, hbig, hq, hqi, hrow, eA, hn, hnn, eT, eE, tyAll, Nat.reduceAdd, Nat.reduceLT, Nat.reduceLeDiff, Nat.reduceEqDiff, Nat.reduceMul, Nat.reduceSub, Nat.reduceGT, reduceIte, Int.reduceNeg, Int.reduceToNat]) |  refine And.intro ?_ ?_ | intro _))
  all_goals first | omega | (simp only; omega) | exact (hz' _ ‹_›).1 | exact (hz' _ ‹_›).2 | exact hnm' _ ‹_› | exact Nat.le_trans (nA _ ‹_›) (by omega) | exact Nat.le_trans (nT _ ‹_›) (by omega) | skip
  refine WP.loop (fun k : Nat => ⟨[(3, .ptr 3 0 0 0), (5, .v (.string s)), (6, .ptr 6 0 0 0), (7, .v (.int .i64 n)), (8, .ptr 8 0 0 0), (9, .sl 2 (E.map encEntry)), (10, .v (.int .i64 k))],
    [(3, .box 29 [.sl 3 ((drA b).1.map encNode), .sl 1 ((drA b).2.map encI)]), (6, .box 29 [.sl 3 (A1.map encNode), .sl 1 (A2.map encI)]), (8, .box 29 [.sl 3 (B1.map encNode), .sl 1 (B2.map encI)])]⟩)
    (fun k => k ≤ E.length) (fun k => E.length - k) 0 (by simp) ?_ ?_
  · (simp only [go_sem, tyAll, Nat.reduceAdd, Nat.reduceLT, Nat.reduceLeDiff, Nat.reduceEqDiff, Nat.reduceMul, Nat.reduceSub, Nat.reduceGT, reduceIte, Int.reduceNeg, Int.reduceToNat] <;> (first | rfl | exact ⟨rfl, rfl⟩ | exact ⟨rfl, rfl, rfl⟩ | exact ⟨rfl, rfl, rfl, rfl⟩ | exact ⟨rfl, rfl, rfl, rfl, rfl⟩ | exact ⟨⟨rfl, rfl⟩, rfl⟩ | simp))
  intro k hk
  by_cases hlt : k < E.length
  · have hli : (k : Int) < E.length := by omega
    have h1 := rowAt_map encEntry E k hlt
    obtain ⟨g1, g2⟩ := f4 _ (List.getElem_mem hlt)
    have g3 : ¬ n < (((parseF E[k].stack).getD []).length : Int) := by omega
    (repeat' (first | refine WP.seq ?_ | refine WP.block ?_ | ((first | refine WP.region ?_ | refine WP.condW ?_ | refine WP.ret ?_ | refine WP.exit ?_ | refine WP.skip ?_); simp only [go_sem, hli, h1, encEntry, g3, tyAll, Nat.reduceAdd, Nat.reduceLT, Nat.reduceLeDiff, Nat.reduceEqDiff, Nat.reduceMul, Nat.reduceSub, Nat.reduceGT, reduceIte, Int.reduceNeg, Int.reduceToNat]) | ((first | refine WP.drawW 26 (by decide +kernel) (by kernel_rfl) ?_); simp only [go_sem, hli, h1, encEntry, g3, tyAll, Nat.reduceAdd, Nat.reduceLT, Nat.reduceLeDiff, Nat.reduceEqDiff, Nat.reduceMul, Nat.reduceSub, Nat.reduceGT, reduceIte, Int.reduceNeg, Int.reduceToNat]) |  refine And.intro ?_ ?_ | intro _))
    all_goals first | omega | (simp only; omega) | exact ⟨k + 1, by omega, by omega, by (first | rfl | exact ⟨rfl, rfl⟩ | exact ⟨rfl, rfl, rfl⟩ | exact ⟨rfl, rfl, rfl, rfl⟩ | exact ⟨rfl, rfl, rfl, rfl, rfl⟩ | exact ⟨⟨rfl, rfl⟩, rfl⟩ | simp)⟩ | skip
    all_goals trace_state
  · have hge : ¬ (k : Int) < E.length := by omega
    (repeat' (first | refine WP.seq ?_ | refine WP.block ?_ | ((first | refine WP.region ?_ | refine WP.condW ?_ | refine WP.ret ?_ | refine WP.exit ?_ | refine WP.skip ?_); simp only [go_sem, hge, f2, f3, eAF, f1, eU, sm, tyAll, Nat.reduceAdd, Nat.reduceLT, Nat.reduceLeDiff, Nat.reduceEqDiff, Nat.reduceMul, Nat.reduceSub, Nat.reduceGT, reduceIte, Int.reduceNeg, Int.reduceToNat]) | ((first | refine WP.drawW 26 (by decide +kernel) (by kernel_rfl) ?_); simp only [go_sem, hge, f2, f3, eAF, f1, eU, sm, tyAll, Nat.reduceAdd, Nat.reduceLT, Nat.reduceLeDiff, Nat.reduceEqDiff, Nat.reduceMul, Nat.reduceSub, Nat.reduceGT, reduceIte, Int.reduceNeg, Int.reduceToNat]) |  refine And.intro ?_ ?_ | intro _))
    all_goals first | omega | (simp only; omega) | exact hnm' _ ‹_› | exact Nat.le_trans (hnm _ ‹_›) (by omega) | exact Nat.le_trans (nA _ ‹_›) (by omega) | exact Nat.le_trans (nT _ ‹_›) (by omega) | exact Nat.le_trans (nAF _ ‹_›) (by omega) | exact Nat.le_trans (nU _ ‹_›) (by omega) | rfl | skip
    all_goals trace_state
end
end
section
open Go.Vc
set_option linter.unusedSimpArgs false
set_option linter.unusedVariables false
set_option maxHeartbeats 1000000
set_option maxRecDepth 10000
attribute [local irreducible] Go.Vc.WP
attribute [local go_sem] cx0_t cx0_c
attribute [local go_sem] decNode_enc decFrame_enc oneFrame_enc stkA oneFrame_ab oneNode_abc decI_enc prA encI_inj
theorem szGo_neg : ∀ (l : List Nat) (r : Int), 0 ≤ r → szGo l r < 0 → szGo l r = -1
  | [], r, h, h2 => by unfold szGo at h2 ⊢; omega
  | n :: l, r, h, h2 => by
    unfold szGo at h2 ⊢
    split
    · rfl
    · rename_i h3
      rw [if_neg h3] at h2
      exact szGo_neg l _ (by omega) h2
theorem szGo_le1 : ∀ (l : List Nat) (r : Int), -1 ≤ r → szGo l r ≤ r
  | [], r, h => Int.le_refl _
  | n :: l, r, h => by
    unfold szGo
    split
    · omega
    · have := szGo_le1 l (r - n) (by omega)
      omega
theorem szvNode_neg {N : List Node} {l : Int} (h0 : 0 ≤ l) (h : szvNode N l < 0) : szvNode N l = -1 := by
  unfold szvNode at h ⊢
  split
  · rfl
  · rename_i h2
    rw [if_neg h2] at h
    exact szGo_neg _ _ (by omega) h
theorem szvNode_le {N : List Node} {l : Int} (h0 : 0 ≤ l) : szvNode N l ≤ l := by
  unfold szvNode
  split
  · omega
  · have := szGo_le1 (sizesNode N) (l - N.length) (by omega)
    omega
theorem szvNode_ok' {N : List Node} {l : Int} (hl : l ≤ 1048576) (h : ¬ szvNode N l < 0) : N.length ≤ 1048576 ∧ ∀ x ∈ N, x.name.size ≤ 1048576 := by
  unfold szvNode at h
  split at h
  · omega
  · rename_i h2
    refine ⟨by omega, fun x hx => ?_⟩
    have := szGo_ok (sizesNode N) _ (by omega) (Int.not_lt.1 h) x.name.size (List.mem_map.2 ⟨x, hx, rfl⟩)
    omega
def kszI : Ctr := pur (fun args => (decI (aR args 0), aI args 1)) (fun x => [.sl 1 (x.1.map encI), .v (.int .i64 x.2)]) (fun x => x.1.length ≤ maxLen ∧ 0 ≤ x.2 ∧ x.2 ≤ 1048576)
  (fun _ x => .v (.int .i64 (if x.2 - x.1.length < 0 then -1 else x.2 - x.1.length))) (fun _ _ => [])
section
noncomputable def cxSzI : Cx := { P := Tryz.prog, tys := tys, C := [], hty := tysOk, hC := COk.nil _ }
theorem cxSzI_t : cxSzI.tys = tys := rfl
theorem cxSzI_c : cxSzI.C = [] := rfl
attribute [local go_sem] cxSzI_t cxSzI_c 
theorem cszI : Cn Tryz.prog 99 kszI := by
  refine Cn.pur Tryz.func99 (by kernel_rfl) rfl fun d x hx => ?_
  obtain ⟨L, left⟩ := x
  obtain ⟨hL, h0, h1⟩ := hx
  simp only at hL h0 h1 ⊢
  have hm : maxLen = 9223372036854775807 := rfl
  refine Holds.go (c := cxSzI) Tryz.func99 rfl Tryz.results99 Tryz.ntmps99 (by omega) (by simp) rfl ?_
  intro X0 w0
  (repeat' (first | refine WP.seq ?_ | refine WP.block ?_ | ((first | refine WP.region ?_ | refine WP.condW ?_ | refine WP.ret ?_ | refine WP.exit ?_ | refine WP.skip ?_); simp only [go_sem, tyAll, Nat.reduceAdd, Nat.reduceLT, Nat.reduceLeDiff, Nat.reduceEqDiff, Nat.reduceMul, Nat.reduceSub, Nat.reduceGT, reduceIte, Int.reduceNeg, Int.reduceToNat]) |  refine And.intro ?_ ?_ | intro _))
  all_goals first | omega | skip
  · rename_i h; rw [if_pos h]
  · rename_i h; rw [if_neg (by omega)]
end
def kszStk : Ctr := pur (fun args => (stkA args 0, aI args 1)) (fun x => [.agg [.sl 3 (x.1.map encNode)], .v (.int .i64 x.2)]) (fun x => x.1.length ≤ maxLen ∧ (∀ r ∈ x.1, r.name.size ≤ maxLen) ∧ 0 ≤ x.2 ∧ x.2 ≤ 1048576)
  (fun _ x => .v (.int .i64 (szvNode x.1 x.2))) (fun _ _ => [])
section
noncomputable def cxSzStk : Cx := { P := Tryz.prog, tys := tys, C := [(147, kszNodeS)], hty := tysOk, hC := COk.cons cszNodeS (COk.nil _) }
theorem cxSzStk_t : cxSzStk.tys = tys := rfl
theorem cxSzStk_c : cxSzStk.C = [(147, kszNodeS)] := rfl
attribute [local go_sem] cxSzStk_t cxSzStk_c kszNodeS
theorem cszStk : Cn Tryz.prog 98 kszStk := by
  refine Cn.pur Tryz.func98 (by kernel_rfl) rfl fun d x hx => ?_
  obtain ⟨N, left⟩ := x
  obtain ⟨hN, hs, h0, h1⟩ := hx
  simp only at hN hs h0 h1 ⊢
  refine Holds.go (c := cxSzStk) Tryz.func98 rfl Tryz.results98 Tryz.ntmps98 (by omega) (by simp) rfl ?_
  intro X0 w0
  (repeat' (first | refine WP.seq ?_ | refine WP.block ?_ | ((first | refine WP.region ?_ | refine WP.condW ?_ | refine WP.ret ?_ | refine WP.exit ?_ | refine WP.skip ?_); simp only [go_sem, tyAll, Nat.reduceAdd, Nat.reduceLT, Nat.reduceLeDiff, Nat.reduceEqDiff, Nat.reduceMul, Nat.reduceSub, Nat.reduceGT, reduceIte, Int.reduceNeg, Int.reduceToNat]) |  refine And.intro ?_ ?_ | intro _))
  all_goals first | omega | exact hs _ ‹_› | skip
  · rename_i h; rw [szvNode_neg h0 h]
end
def szvPr (x : List Node × List Int) (l : Int) : Int := if szvNode x.1 l < 0 then -1 else if szvNode x.1 l - x.2.length < 0 then -1 else szvNode x.1 l - x.2.length
theorem szvPr_le {x : List Node × List Int} {l : Int} (h0 : 0 ≤ l) : szvPr x l ≤ l := by
  have := szvNode_le (N := x.1) h0
  unfold szvPr
  split
  · omega
  · split <;> omega
theorem szvPr_neg {x : List Node × List Int} {l : Int} (h : szvPr x l < 0) : szvPr x l = -1 := by
  unfold szvPr at h ⊢
  split
  · rfl
  · split
    · rfl
    · rename_i h1 h2; rw [if_neg h1, if_neg h2] at h; omega
theorem szvPr_ok {x : List Node × List Int} {l : Int} (hl : l ≤ 1048576) (h : ¬ szvPr x l < 0) : (x.1.length ≤ 1048576 ∧ ∀ n ∈ x.1, n.name.size ≤ 1048576) ∧ x.2.length ≤ 1048576 := by
  unfold szvPr at h
  split at h
  · omega
  · rename_i h1
    refine ⟨szvNode_ok' hl h1, ?_⟩
    split at h
    · omega
    · by_cases h0 : 0 ≤ l
      · have := szvNode_le (N := x.1) h0
        omega
      · exfalso
        apply h1
        unfold szvNode
        rw [if_pos (by omega)]; omega
def wfM (x : List Node × List Int) : Prop := x.1.length ≤ maxLen ∧ (∀ r ∈ x.1, r.name.size ≤ maxLen) ∧ x.2.length ≤ maxLen
def kszPr : Ctr := pur (fun args => (prA args 0, aI args 1)) (fun x => [.agg [.sl 3 (x.1.1.map encNode), .sl 1 (x.1.2.map encI)], .v (.int .i64 x.2)]) (fun x => wfM x.1 ∧ 0 ≤ x.2 ∧ x.2 ≤ 1048576)
  (fun _ x => .v (.int .i64 (szvPr x.1 x.2))) (fun _ _ => [])
section
noncomputable def cxSzPr : Cx := { P := Tryz.prog, tys := tys, C := [(98, kszStk), (99, kszI)], hty := tysOk, hC := COk.cons cszStk (COk.cons cszI (COk.nil _)) }
theorem cxSzPr_t : cxSzPr.tys = tys := rfl
theorem cxSzPr_c : cxSzPr.C = [(98, kszStk), (99, kszI)] := rfl
attribute [local go_sem] cxSzPr_t cxSzPr_c kszStk kszI
theorem cszPr : Cn Tryz.prog 41 kszPr := by
  refine Cn.pur Tryz.func41 (by kernel_rfl) rfl fun d x hx => ?_
  obtain ⟨⟨N, C⟩, left⟩ := x
  obtain ⟨⟨hN, hs, hC⟩, h0, h1⟩ := hx
  simp only at hN hs hC h0 h1 ⊢
  have hle := szvNode_le (N := N) h0
  refine Holds.go (c := cxSzPr) Tryz.func41 rfl Tryz.results41 Tryz.ntmps41 (by omega) (by simp) rfl ?_
  intro X0 w0
  (repeat' (first | refine WP.seq ?_ | refine WP.block ?_ | ((first | refine WP.region ?_ | refine WP.condW ?_ | refine WP.ret ?_ | refine WP.exit ?_ | refine WP.skip ?_); simp only [go_sem, tyAll, Nat.reduceAdd, Nat.reduceLT, Nat.reduceLeDiff, Nat.reduceEqDiff, Nat.reduceMul, Nat.reduceSub, Nat.reduceGT, reduceIte, Int.reduceNeg, Int.reduceToNat]) |  refine And.intro ?_ ?_ | intro _))
  all_goals first | omega | exact hs _ ‹_› | skip
  · rename_i h; rw [szvPr, if_pos h]
  · rename_i h g
    rw [szvPr, if_neg (Int.not_lt.2 h)]
    split
    · rfl
    · rename_i h5
      have h6 : ¬ (szvNode N left - (C.length : Int) < 0) := h5
      rw [if_neg h6] at g
      exact absurd g h6
  · rename_i h g
    rw [szvPr, if_neg (Int.not_lt.2 h)]
end
def ktoStk : Ctr := pur (fun args => stkA args 0) (fun N => [.agg [.sl 3 (N.map encNode)]]) (fun N => N.length ≤ 2097152) (fun d _ => .agg [.own d]) (fun d N => [(d, .sl 157 3 (N.map encNode))])
section
noncomputable def cxToStk : Cx := { P := Tryz.prog, tys := tys, C := [(148, ktoNodeS)], hty := tysOk, hC := COk.cons ctoNodeS (COk.nil _) }
theorem cxToStk_t : cxToStk.tys = tys := rfl
theorem cxToStk_c : cxToStk.C = [(148, ktoNodeS)] := rfl
attribute [local go_sem] cxToStk_t cxToStk_c ktoNodeS
theorem ctoStk : Cn Tryz.prog 100 ktoStk := by
  refine Cn.pur Tryz.func100 (by kernel_rfl) rfl fun d x hx => ?_
  refine Holds.go (c := cxToStk) Tryz.func100 rfl Tryz.results100 Tryz.ntmps100 (by omega) (by simp) rfl ?_
  intro X0 w0
  (repeat' (first | refine WP.seq ?_ | refine WP.block ?_ | ((first | refine WP.region ?_ | refine WP.condW ?_ | refine WP.ret ?_ | refine WP.exit ?_ | refine WP.skip ?_); simp only [go_sem, tyAll, Nat.reduceAdd, Nat.reduceLT, Nat.reduceLeDiff, Nat.reduceEqDiff, Nat.reduceMul, Nat.reduceSub, Nat.reduceGT, reduceIte, Int.reduceNeg, Int.reduceToNat]) |  refine And.intro ?_ ?_ | intro _))
  all_goals first | omega | exact ⟨_, _, _, rfl⟩ | exact ⟨_, _, rfl, _, _, rfl, rfl⟩ | skip
end
def ktoPr : Ctr := pur (fun args => prA args 0) (fun x => [.agg [.sl 3 (x.1.map encNode), .sl 1 (x.2.map encI)]]) (fun x => x.1.length ≤ 2097152 ∧ x.2.length ≤ 2097152) (fun d _ => .agg [.own d, .own (d + 1000)]) (fun d x => [(d, .sl 157 3 (x.1.map encNode)), (d + 1000, .sl 3 1 (x.2.map encI))])
section
noncomputable def cxToPr : Cx := { P := Tryz.prog, tys := tys, C := [(100, ktoStk), (101, k15)], hty := tysOk, hC := COk.cons ctoStk (COk.cons c15 (COk.nil _)) }
theorem cxToPr_t : cxToPr.tys = tys := rfl
theorem cxToPr_c : cxToPr.C = [(100, ktoStk), (101, k15)] := rfl
attribute [local go_sem] cxToPr_t cxToPr_c ktoStk k15
theorem ctoPr : Cn Tryz.prog 43 ktoPr := by
  refine Cn.pur Tryz.func43 (by kernel_rfl) rfl fun d x hx => ?_
  obtain ⟨N, C⟩ := x
  obtain ⟨hN, hC⟩ := hx
  simp only at hN hC ⊢
  refine Holds.go (c := cxToPr) Tryz.func43 rfl Tryz.results43 Tryz.ntmps43 (by omega) (by simp) rfl ?_
  intro X0 w0
  (repeat' (first | refine WP.seq ?_ | refine WP.block ?_ | ((first | refine WP.region ?_ | refine WP.condW ?_ | refine WP.ret ?_ | refine WP.exit ?_ | refine WP.skip ?_); simp only [go_sem, tyAll, Nat.reduceAdd, Nat.reduceLT, Nat.reduceLeDiff, Nat.reduceEqDiff, Nat.reduceMul, Nat.reduceSub, Nat.reduceGT, reduceIte, Int.reduceNeg, Int.reduceToNat]) |  refine And.intro ?_ ?_ | intro _))
  all_goals first | omega | exact ⟨_, _, _, rfl⟩ | exact ⟨_, _, rfl, _, _, rfl, rfl⟩ | (rw [if_neg (by omega)]) | skip
end
def keqStk : Ctr := pur (fun args => (stkA args 0, stkA args 1)) (fun x => [.agg [.sl 3 (x.1.map encNode)], .agg [.sl 3 (x.2.map encNode)]]) (fun x => x.1.length ≤ 4398046511104) (fun _ x => .v (.bool (decide (x.1 = x.2)))) (fun _ _ => [])
section
noncomputable def cxEqStk : Cx := { P := Tryz.prog, tys := tys, C := [(149, keqNodeS)], hty := tysOk, hC := COk.cons ceqNodeS (COk.nil _) }
theorem cxEqStk_t : cxEqStk.tys = tys := rfl
theorem cxEqStk_c : cxEqStk.C = [(149, keqNodeS)] := rfl
attribute [local go_sem] cxEqStk_t cxEqStk_c keqNodeS
theorem ceqStk : Cn Tryz.prog 102 keqStk := by
  refine Cn.pur Tryz.func102 (by kernel_rfl) rfl fun d x hx => ?_
  obtain ⟨N, M⟩ := x
  simp only at hx ⊢
  refine Holds.go (c := cxEqStk) Tryz.func102 rfl Tryz.results102 Tryz.ntmps102 (by omega) (by simp) rfl ?_
  intro X0 w0
  (repeat' (first | refine WP.seq ?_ | refine WP.block ?_ | ((first | refine WP.region ?_ | refine WP.condW ?_ | refine WP.ret ?_ | refine WP.exit ?_ | refine WP.skip ?_); simp only [go_sem, tyAll, Nat.reduceAdd, Nat.reduceLT, Nat.reduceLeDiff, Nat.reduceEqDiff, Nat.reduceMul, Nat.reduceSub, Nat.reduceGT, reduceIte, Int.reduceNeg, Int.reduceToNat]) |  refine And.intro ?_ ?_ | intro _))
  all_goals first | omega | simp_all | skip
end
def keqPr : Ctr := pur (fun args => (prA args 0, prA args 1)) (fun x => [.agg [.sl 3 (x.1.1.map encNode), .sl 1 (x.1.2.map encI)], .agg [.sl 3 (x.2.1.map encNode), .sl 1 (x.2.2.map encI)]]) (fun x => x.1.1.length ≤ 4398046511104 ∧ x.1.2.length ≤ 4398046511104)
  (fun _ x => .v (.bool (decide (x.1 = x.2)))) (fun _ _ => [])
section
noncomputable def cxEqPr : Cx := { P := Tryz.prog, tys := tys, C := [(102, keqStk), (103, k17)], hty := tysOk, hC := COk.cons ceqStk (COk.cons c17 (COk.nil _)) }
theorem cxEqPr_t : cxEqPr.tys = tys := rfl
theorem cxEqPr_c : cxEqPr.C = [(102, keqStk), (103, k17)] := rfl
attribute [local go_sem] cxEqPr_t cxEqPr_c keqStk k17
theorem ceqPr : Cn Tryz.prog 44 keqPr := by
  refine Cn.pur Tryz.func44 (by kernel_rfl) rfl fun d x hx => ?_
  obtain ⟨⟨N, C⟩, ⟨M, D⟩⟩ := x
  simp only at hx ⊢
  refine Holds.go (c := cxEqPr) Tryz.func44 rfl Tryz.results44 Tryz.ntmps44 (by omega) (by simp) rfl ?_
  intro X0 w0
  (repeat' (first | refine WP.seq ?_ | refine WP.block ?_ | ((first | refine WP.region ?_ | refine WP.condW ?_ | refine WP.ret ?_ | refine WP.exit ?_ | refine WP.skip ?_); simp only [go_sem, tyAll, Nat.reduceAdd, Nat.reduceLT, Nat.reduceLeDiff, Nat.reduceEqDiff, Nat.reduceMul, Nat.reduceSub, Nat.reduceGT, reduceIte, Int.reduceNeg, Int.reduceToNat]) |  refine And.intro ?_ ?_ | intro _))
  all_goals first | omega | simp_all | skip
end
end
end Go.Proofs.YtklcphbgaeiegaaGreatDoor
/-
  DERIVED. What is read of a struct, field by field, stands for what its fields stand for.
-/
namespace Go.Vc
open Go.RowKit Go.WideShapes Go.ChangeShapes Go.Deep
set_option linter.unusedVariables false
section
variable {H : Type} {enc : TypeId × Value → H} {P : Program} {w : World}
theorem Cells.append {r1 r2 : List SV} {c1 c2 : List Value} (h1 : Cells w r1 c1) (h2 : Cells w r2 c2) : Cells w (r1 ++ r2) (c1 ++ c2) := by
  refine ⟨by rw [List.length_append, List.length_append, h1.1, h2.1], fun k c u hc hu => ?_⟩
  rw [List.getElem?_append] at hc hu
  by_cases hk : k < r1.length
  · rw [if_pos hk] at hc
    rw [if_pos (by rw [← h1.1]; exact hk)] at hu
    exact h1.2 k c u hc hu
  · rw [if_neg hk] at hc
    rw [if_neg (by rw [← h1.1]; exact hk), ← h1.1] at hu
    exact h2.2 _ c u hc hu
theorem Dec.map {t : TypeId} {α β : Type} {e : α → List SV} {wf : α → Prop} {e' : β → List SV} {wf' : β → Prop} (hd : Dec H enc P w t e wf) (g : α → β) (he : ∀ a, e' (g a) = e a) (hw : ∀ a, wf a → wf' (g a)) : Dec H enc P w t e' wf' := by
  intro base sp held n cs y h
  obtain ⟨a, ha, hc⟩ := hd _ _ _ _ _ _ h
  exact ⟨g a, hw a ha, by rw [he]; exact hc⟩
theorem Dec.struct1 {t : TypeId} {f0 : Field} {k0 : Nat} {α : Type} {e : α → List SV} {wf : α → Prop} (ht : P.underlying t = some (.struct #[f0])) (o0 : f0.offset = 0) (h0 : P.cellsOf f0.type = k0) (hC : P.cellsOf t = k0) (hd : Dec H enc P w f0.type e wf) : Dec H enc P w t e wf := by
  intro base sp held n cs y h
  obtain ⟨y0, m, _, hl, g0⟩ := trod_struct1 ht h
  obtain ⟨a, ha, hc⟩ := hd _ _ _ _ _ _ g0
  rw [o0, h0, List.drop_zero, List.take_of_length_le (by omega)] at hc
  exact ⟨a, ha, hc⟩
theorem Dec.struct2 {t : TypeId} {f0 f1 : Field} {k0 k1 : Nat} {α β : Type} {e0 : α → List SV} {w0 : α → Prop} {e1 : β → List SV} {w1 : β → Prop} (ht : P.underlying t = some (.struct #[f0, f1])) (o0 : f0.offset = 0) (h0 : P.cellsOf f0.type = k0) (o1 : f1.offset = k0) (h1 : P.cellsOf f1.type = k1) (hC : P.cellsOf t = k0 + k1)
    (d0 : Dec H enc P w f0.type e0 w0) (d1 : Dec H enc P w f1.type e1 w1) : Dec H enc P w t (fun x : α × β => e0 x.1 ++ e1 x.2) (fun x => w0 x.1 ∧ w1 x.2) := by
  intro base sp held n cs y h
  obtain ⟨y0, y1, m, _, hl, g0, g1⟩ := trod_struct2 ht h
  obtain ⟨a, ha, hc⟩ := d0 _ _ _ _ _ _ g0
  obtain ⟨b, hb, hd⟩ := d1 _ _ _ _ _ _ g1
  rw [o0, h0, List.drop_zero] at hc
  rw [o1, h1, List.take_of_length_le (by rw [List.length_drop]; omega)] at hd
  refine ⟨(a, b), ⟨ha, hb⟩, ?_⟩
  have := hc.append hd
  rwa [List.take_append_drop] at this
theorem Dec.struct3 {t : TypeId} {f0 f1 f2 : Field} {k0 k1 k2 : Nat} {α β γ : Type} {e0 : α → List SV} {w0 : α → Prop} {e1 : β → List SV} {w1 : β → Prop} {e2 : γ → List SV} {w2 : γ → Prop} (ht : P.underlying t = some (.struct #[f0, f1, f2])) (o0 : f0.offset = 0) (h0 : P.cellsOf f0.type = k0) (o1 : f1.offset = k0) (h1 : P.cellsOf f1.type = k1) (o2 : f2.offset = k0 + k1) (h2 : P.cellsOf f2.type = k2) (hC : P.cellsOf t = k0 + k1 + k2)
    (d0 : Dec H enc P w f0.type e0 w0) (d1 : Dec H enc P w f1.type e1 w1) (d2 : Dec H enc P w f2.type e2 w2) : Dec H enc P w t (fun x : α × β × γ => e0 x.1 ++ (e1 x.2.1 ++ e2 x.2.2)) (fun x => w0 x.1 ∧ w1 x.2.1 ∧ w2 x.2.2) := by
  intro base sp held n cs y h
  obtain ⟨y0, y1, y2, m, _, hl, g0, g1, g2⟩ := trod_struct3 ht h
  obtain ⟨a, ha, hc⟩ := d0 _ _ _ _ _ _ g0
  obtain ⟨b, hb, hd⟩ := d1 _ _ _ _ _ _ g1
  obtain ⟨c, hc', he⟩ := d2 _ _ _ _ _ _ g2
  rw [o0, h0, List.drop_zero] at hc
  rw [o1, h1] at hd
  rw [o2, h2, List.take_of_length_le (by rw [List.length_drop]; omega), ← List.drop_drop] at he
  refine ⟨(a, b, c), ⟨ha, hb, hc'⟩, ?_⟩
  have := hc.append (hd.append he)
  rwa [List.take_append_drop, List.take_append_drop] at this
end
end Go.Vc

/-
  DERIVED. What is read of stacks and of a profile.
-/
namespace Go.Proofs.YtklcphbgaeiegaaGreatDoor
open Go.Vc Go.RowKit Go.WideShapes Go.ChangeShapes Go.Deep
section
variable {H : Type} {enc : TypeId × Value → H} {w : World}
def okN (L : List Node) : Prop := L.length ≤ maxLen ∧ ∀ x ∈ L, x.name.size ≤ maxLen
theorem rowNode' : Dec H enc Tryz.prog w 182 encNode (fun x => x.name.size ≤ maxLen) :=
  (Dec.struct2 (k0 := 1) (k1 := 2) Tryz.underlying182 rfl (by kernel_rfl) rfl (by kernel_rfl) (by kernel_rfl) (Dec.int Tryz.underlying3) rowFrame).map (fun x : Int × Frame => (⟨x.1, x.2.name, x.2.line⟩ : Node)) (fun _ => rfl) (fun _ h => h.2.1)
theorem rowStk : Dec H enc Tryz.prog w 70 (fun N : List Node => [.sl 3 (N.map encNode)]) okN :=
  Dec.struct1 (k0 := 1) Tryz.underlying70 rfl (by kernel_rfl) (by kernel_rfl) (Dec.slice (s := 3) Tryz.underlying68 (by kernel_rfl) (by omega) rowNode' (fun _ => rfl))
theorem rowPr : Dec H enc Tryz.prog w 72 (fun x : List Node × List Int => [.sl 3 (x.1.map encNode), .sl 1 (x.2.map encI)]) wfM :=
  (Dec.struct2 (k0 := 1) (k1 := 1) Tryz.underlying72 rfl (by kernel_rfl) rfl (by kernel_rfl) (by kernel_rfl) rowStk
    (Dec.slice (s := 1) Tryz.underlying27 (by kernel_rfl) (by omega) (Dec.int Tryz.underlying3) (fun _ => rfl))).map (fun x : List Node × List Int => x) (fun _ => rfl) (fun _ h => ⟨h.1.1, h.1.2, h.2.1⟩)
end
end Go.Proofs.YtklcphbgaeiegaaGreatDoor

