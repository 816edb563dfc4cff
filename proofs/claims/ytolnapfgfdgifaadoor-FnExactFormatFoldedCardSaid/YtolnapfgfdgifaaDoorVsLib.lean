/-
  DERIVED. The library's functions on texts, as contracts.
-/
import Derived.Test.YtolnapfgfdgifaaDoorVsLay
import Derived.Test.YtolnapfgfdgifaaDoorVpCut
import Derived.Test.YtolnapfgfdgifaaDoorVcU
import Derived.Shelf.Strconv.Itoa3
import Derived.Shelf.Strings.Cut
import Derived.Shelf.Strings.Split
import Derived.Shelf.Strings.OnBuilder
namespace Go.Proofs.YtolnapfgfdgifaaDoor
open Go.Vc
set_option linter.unusedSimpArgs false
set_option linter.unusedVariables false
set_option maxHeartbeats 1000000
set_option maxRecDepth 10000
attribute [local go_sem] St.runR St.runW St.stepV offV St.step St.stepU St.stepG mkCond guardB St.prK St.pr St.prLen St.eff St.callE St.callD St.callF St.callL aI aB aS aR aC St.isM St.argL Ctr.pure Ctr.lend Ctr.move Ctr.isL Ctr.wri pur len lentBy St.lentV St.lent1 nthS argsR restOf obsR pairs swapL unObs backL St.resL erL SV.ren1 SV.up SV.up2 Ob.up St.fzL cellIds partIds St.intoRow SV.ownId St.fz SV.fz1 St.prep St.mvL St.mv SV.re1 rnOk St.prEq vals eqCells scEq Value.kd St.prStr St.prCut cutR St.bnd St.prMin St.bld isShift outL retL outJ oR oC St.ev St.get St.put St.new St.kill SV.kill SV.kill1 Ob.kill St.app St.wrt St.rowsOf St.res St.killL lk er argsL SV.strip SV.need SV.share SV.share1 SV.owns SV.owns1 SV.owns2 SV.good SV.good1 SV.rok SV.rok1 SV.rok2 SV.isV SV.isV2 nodupN SV.cells SV.one SV.pur partsIn rowsIn splice cellsAt dstOk scal2 scal1 thenK blockK retK outK outs okC okL okA okT nilC nilL nilA nilT keepC keepL keepA keepT St.runG St.dltK St.least St.clean St.final St.hide offK badS badO SV.refs SV.leaf SV.leaf2 Ob.refs dlOk fpAt Go.Vc.cover tups SV.ofAgg St.out outC subL St.has rng wr Value.oneCell' Option.isSome_some Option.isSome_none List.nil_append Bool.false_eq_true List.map_cons List.map_nil List.all_cons List.all_nil List.length_cons List.length_nil List.drop_zero List.drop_succ_cons List.take_succ_cons List.take_zero List.drop_nil List.take_nil List.getElem?_cons_zero List.getElem?_cons_succ List.getElem?_nil List.cons_append List.nil_append List.append_nil List.append_assoc List.flatMap_cons List.flatMap_nil List.contains_cons List.contains_nil List.set_cons_zero List.set_cons_succ List.getElem?_toArray Option.getD_some Option.getD_none Option.map_some Option.map_none Option.bind_some Option.some.injEq Prod.mk.injEq if_true if_false true_and and_true and_self and_false false_and Bool.and_false Bool.false_and Bool.or_true Bool.true_or Bool.or_false Bool.false_or ne_eq not_true_eq_false not_false_eq_true decide_true decide_false List.mem_cons List.not_mem_nil List.filter_cons List.filter_nil List.any_cons List.any_nil List.isEmpty_nil List.isEmpty_cons Option.getD_none or_false false_or true_or or_true forall_eq_or_imp forall_eq reduceCtorEq exists_eq exists_eq' exists_eq_left' exists_eq_left exists_eq_right exists_eq_right' imp_self implies_true Bool.and_true Bool.true_and Bool.and_self beq_self_eq_true List.replicate_succ List.replicate_zero forall_const false_implies pickB_or pickB_and beqT beqF Int.toNat_natCast List.length_map List.length_replicate ge_iff_le gt_iff_lt decide_eq_true_eq decide_eq_false_iff_not Bool.and_eq_true Bool.or_eq_true Bool.not_eq_true' Bool.not_eq_false' condG List.toList_toArray Bool.or_eq_false_iff Bool.and_eq_false_iff Int.not_lt Int.not_le beq_iff_eq beq_eq_false_iff_ne bne_iff_ne bne_eq_false_iff_eq ne_eq Bool.not_true Bool.not_false exists_and_left
attribute [local irreducible] Go.Vc.WP
attribute [local go_sem] cx0_t cx0_c
open Go.RowKit (Below)
theorem glob0 : Tryd.prog.globals.size ≠ 0 := by decide +kernel
theorem below_drewN (w : World) (n : Nat) : Below w.heap.size w (w.drewN n) := ⟨rfl, rfl, rfl, Nat.le_refl _, fun _ _ => rfl⟩
theorem below_grow (w : World) (n : Nat) (os : Array Obj) : Below w.heap.size w (Go.Sort.grow (w.drewN n) os) :=
  ⟨rfl, rfl, rfl, by rw [Go.Sort.size_grow]; exact Nat.le_add_right _ _, fun k hk => by show (w.heap ++ os)[k]? = _; rw [Array.getElem?_append_left hk]⟩
def kCmp : Ctr := pur (fun args => (aS args 0, aS args 1)) (fun x => [.v (.string x.1), .v (.string x.2)]) (fun _ => True) (fun _ x => .v (.int .i64 (Lib.compareBytes x.1.data.toList x.2.data.toList))) (fun _ _ => [])
theorem cCmp : Cn Tryd.prog 44 kCmp := by
  refine Cn.pur Tryd.func44 (by kernel_rfl) rfl fun d x _ => ?_
  refine Holds.valV (xs := [.string x.1, .string x.2]) (fun w X β => .p (.v _)) fun w hG => ?_
  exact (Any.strings_Compare Tryd.l106 x.1 x.2 w).mono fun e w' ⟨he, hw⟩ => ⟨he, by rw [hw]; exact Below.refl _ _⟩
def kItoa : Ctr := pur (fun args => aI args 0) (fun n => [.v (.int .i64 n)]) (fun n => 0 ≤ n ∧ n ≤ 1000000000000000) (fun _ n => .v (.string (bts (fmtL n.toNat)))) (fun _ _ => [])
theorem cItoa : Cn Tryd.prog 45 kItoa := by
  refine Cn.pur Tryd.func45 (by kernel_rfl) rfl fun d x hx => ?_
  refine Holds.valV (xs := [.int .i64 x]) (x := .string (bts (fmtL x.toNat))) (fun w X β => .p (.v _)) fun w hG => ?_
  have ht := hG.pow (g := (Tryd.prog.globalNamed "internal/strconv.uint64pow10").getD 0) glob0 (by decide +kernel) (by decide +kernel)
  exact (Any.strconv_Itoa Tryd.lM171 x (by omega) (by omega) w ht).mono fun e w' ⟨he, k, os, hw⟩ => ⟨by rw [he, itoa_fmtL x hx.1], by rw [hw]; exact below_grow w k os⟩
def kCut : Ctr := pur (fun args => (aS args 0, aS args 1)) (fun x => [.v (.string x.1), .v (.string x.2)]) (fun x => x.1.size < 4294967281)
  (fun _ x => .tup [.v (.string (bts (Lib.cut x.1.data.toList x.2.data.toList).1)), .v (.string (bts (Lib.cut x.1.data.toList x.2.data.toList).2.1)), .v (.bool (Lib.cut x.1.data.toList x.2.data.toList).2.2)]) (fun _ _ => [])
theorem cCut : Cn Tryd.prog 26 kCut := by
  refine Cn.pur Tryd.func26 (by kernel_rfl) rfl fun d x hx => ?_
  refine Holds.valV (xs := [.string x.1, .string x.2]) (fun w X β => R.tupV [.string (bts (Lib.cut x.1.data.toList x.2.data.toList).1), .string (bts (Lib.cut x.1.data.toList x.2.data.toList).2.1), .bool (Lib.cut x.1.data.toList x.2.data.toList).2.2]) fun w hG => ?_
  obtain ⟨m, hm⟩ := hG.cellInt (g := Tryd.lM145_ren.g 1) glob0 (by decide +kernel) (fun W0 h => Tryd.lM145.s1_3 W0 h)
  exact (Any.strings_Cut { Tryd.lM145 with } x.1 x.2 m w hx hm).mono fun e w' ⟨he, n, hw⟩ => ⟨he, by rw [hw]; exact below_drewN w n⟩
def kSplit : Ctr := pur (fun args => (aS args 0, aS args 1)) (fun x => [.v (.string x.1), .v (.string x.2)]) (fun x => x.1.size < 4294967281 ∧ x.2.size = 1)
  (fun d _ => .own d) (fun d x => [(d, .sl 9 1 (((cutL x.2[0]! x.1.data.toList).map bts).map encS))])
theorem one1_eq {s : ByteArray} (h : s.size = 1) : s = one1 s[0]! := by
  have hl : s.data.toList.length = 1 := by simpa using h
  rw [getElem!_pos s 0 (by omega)]
  refine (bts_ext s _ ?_).trans rfl
  match hs : s.data.toList, hl with
  | [c], _ =>
    have : s[0]'(by omega) = s.data.toList[0]'(by omega) := by simp; rfl
    rw [this]
    simp [hs]
theorem cSplit : Cn Tryd.prog 76 kSplit := by
  refine Cn.pur Tryd.func76 (by kernel_rfl) rfl fun d x hx => ?_
  obtain ⟨s, sep⟩ := x
  obtain ⟨hs, h1⟩ := hx
  simp only at hs h1 ⊢
  have hsep := one1_eq h1
  generalize sep[0]! = c at hsep
  subst hsep
  have hcut := splitB_cut c s.size s (Nat.le_refl _)
  have hlen := splitB_len c s
  have hle := cutL_len c s.data.toList
  have hsz : s.data.toList.length = s.size := by simp
  have hn := Holds.newV (P := Tryd.prog) (f := 76) (args := [.v (.string s), .v (.string (one1 c))]) (d := d) (e := 9) (s := 1) (cap := Lib.countB s (one1 c) + 1) (rows := ((cutL c s.data.toList).map bts).map fun b => [Value.string b])
    (cur := (((cutL c s.data.toList).map bts).map Value.string).toArray) (by simp [hlen]) (by unfold maxLen; omega) (by simp [hlen]) (fun row hr => by obtain ⟨x, _, rfl⟩ := List.mem_map.1 hr; rfl)
    (fun i k row u hr hu => by
      rw [List.getElem?_map] at hr
      cases hx : ((cutL c s.data.toList).map bts)[i]? with
      | none => rw [hx] at hr; cases hr
      | some b =>
        rw [hx] at hr
        simp only [Option.map_some, Option.some.injEq] at hr
        subst hr
        cases k with
        | succ k => simp at hu
        | zero =>
          simp only [List.getElem?_cons_zero, Option.some.injEq] at hu
          subst hu
          refine ⟨?_, rfl⟩
          rw [Nat.mul_one, Nat.add_zero, List.getElem?_toArray, List.getElem?_map, hx]; rfl) (fun w X vs hG hl ha => by
      have hv : vs = [.string s, .string (one1 c)] := args_v (xs := [.string s, .string (one1 c)]) hl ha
      subst hv
      obtain ⟨m, hm⟩ := hG.cellInt (g := Tryd.lM146_ren.g 1) glob0 (by decide +kernel) (fun W0 h => Tryd.lM146.s1_3 W0 h)
      refine (Any.strings_Split { Tryd.lM146 with } Tryd.lM146.i9 s (one1 c) m w hs hm (Nat.le_refl 1)).mono fun e w' ⟨he, hw⟩ => ⟨?_, ?_⟩
      · rw [he]; simp [hlen]
      · rw [hw, hcut]; rfl)
  have e : (((cutL c s.data.toList).map bts).map fun b => [Value.string b]).map (fun r => r.map SV.v) = ((cutL c s.data.toList).map bts).map encS := by rw [List.map_map]; rfl
  rw [e] at hn
  exact hn
theorem bxT : Builder.Extra Tryd.prog Tryd.l156_ren := {
  sizeBuilder := by kernel_rfl
  liesBuilder := by kernel_rfl
  t5 := Tryd.underlying5
  a5 := Tryd.isAgg5
  z5 := Tryd.sizeOf5
  v5 := Tryd.zeroValue5
  infoByte := by kernel_rfl
  cellsByte := by kernel_rfl
  sizeByte := by kernel_rfl
  neB5 := by decide }
theorem join_joinL (c : UInt8) : ∀ L : List (List UInt8), Lib.join L [c] = joinL c L
  | [] => rfl
  | [x] => by rw [Lib.join_one]; rfl
  | x :: y :: l => by
    have ih := join_joinL c (y :: l)
    unfold Lib.join at ih ⊢
    rw [joinL, ← ih]
    simp [List.intercalate, List.intersperse]
def kJoin : Ctr := pur (fun args => (decS (aR args 0), aS args 1)) (fun x => [.sl 1 (x.1.map encS), .v (.string x.2)]) (fun x => x.1.length ≤ 1099511627776 ∧ x.2.size = 1 ∧ (joinL x.2[0]! (x.1.map (·.data.toList))).length ≤ 140737488355328)
  (fun _ x => .v (.string (bts (joinL x.2[0]! (x.1.map (·.data.toList)))))) (fun _ _ => [])
theorem cJoin : Cn Tryd.prog 65 kJoin := by
  refine Cn.pur Tryd.func65 (by kernel_rfl) rfl fun d x hx => ?_
  obtain ⟨L, sep⟩ := x
  obtain ⟨hL, h1, hj⟩ := hx
  simp only at hL h1 hj ⊢
  have hsep := one1_eq h1
  generalize sep[0]! = c at hsep hj ⊢
  subst hsep
  refine Holds.val (x := .string (bts (joinL c (L.map (·.data.toList))))) (fun w X β => .p (.v _)) fun w X vs hG hl ha => ?_
  match vs, hl with
  | [v0, v1], _ =>
    have h2 := (ha 1 _ v1 rfl rfl).v_inv
    subst h2
    rcases (ha 0 _ v0 rfl rfl).sl_form with ⟨hr, p, cap, rfl⟩ | ⟨b, off, cap, rfl, _, hb, hc, hcell⟩
    · have hL0 : L = [] := by simpa using hr
      subst hL0
      exact (Any.strings_Join_none Tryd.l156 bxT p cap (one1 c) w).mono fun e w' ⟨he, hw⟩ => ⟨he, by rw [hw]; exact Below.refl _ _⟩
    · rw [List.length_map] at hc ⊢
      refine (Any.strings_Join Tryd.l156 bxT b off cap L (one1 c) w (fun j x hx => ?_) hb (by omega) hc (by rw [show (one1 c).data.toList = [c] from rfl, join_joinL]; exact hj)).mono fun e w' ⟨he, hw⟩ => ⟨?_, hw⟩
      · obtain ⟨u, hu, hru⟩ := hcell j 0 (encS x) (.v (.string x)) (by rw [List.getElem?_map, hx]; rfl) rfl
        cases hru
        rw [Nat.mul_one, Nat.add_zero] at hu
        exact hu
      · rw [he, show (one1 c).data.toList = [c] from rfl, join_joinL]; rfl
end Go.Proofs.YtolnapfgfdgifaaDoor
