/-
  DERIVED. Several texts of ours in one: VtRow, VtTabP, VtSortT.
-/
import Derived.Test.YtolnapfgfdgifaaGreatDoorVo0
import Derived.Test.YtolnapfgfdgifaaGreatDoorVo1
import Derived.Test.YtolnapfgfdgifaaGreatDoorVo2
import Derived.Test.YtolnapfgfdgifaaGreatDoorVo3
import Derived.Test.YtolnapfgfdgifaaGreatDoorVo4
import Derived.Test.YtolnapfgfdgifaaGreatDoorVo5
import Derived.Test.YtolnapfgfdgifaaGreatDoorVo6
import Derived.Test.YtolnapfgfdgifaaGreatDoorVo7
import Derived.Test.YtolnapfgfdgifaaGreatDoorVo8
import Derived.Test.YtolnapfgfdgifaaGreatDoorVo9
import Derived.Test.YtolnapfgfdgifaaGreatDoorVo10
import Derived.Test.YtolnapfgfdgifaaGreatDoorVo11
import Derived.Shelf.Small.Strs
set_option linter.unusedSimpArgs false
set_option linter.unusedVariables false
/-
  DERIVED. RowOf, of the reference and of the program, and its law's function.
-/
namespace Go.Proofs.YtolnapfgfdgifaaGreatDoor
open Go.Vc
set_option linter.unusedSimpArgs false
set_option linter.unusedVariables false
set_option maxHeartbeats 1000000
set_option maxRecDepth 10000
attribute [local go_sem] St.runR St.runW St.stepV offV St.step St.stepU St.stepG mkCond guardB St.prK St.pr St.prLen St.eff St.callE St.callD St.callF St.callL aI aB aS aR aC St.isM St.argL Ctr.pure Ctr.lend Ctr.move Ctr.isL Ctr.wri pur len lentBy St.lentV St.lent1 nthS argsR restOf obsR pairs swapL unObs backL St.resL erL SV.ren1 SV.up SV.up2 Ob.up St.fzL cellIds partIds St.intoRow SV.ownId St.fz SV.fz1 St.prep St.mvL St.mv SV.re1 rnOk St.prEq vals eqCells scEq Value.kd St.prStr St.prCut cutR St.bnd St.prMin St.bld isShift outL retL outJ oR oC St.ev St.get St.put St.new St.kill SV.kill SV.kill1 Ob.kill St.app St.wrt St.rowsOf St.res St.killL lk er argsL SV.strip SV.need SV.share SV.share1 SV.owns SV.owns1 SV.owns2 SV.good SV.good1 SV.rok SV.rok1 SV.rok2 SV.isV SV.isV2 nodupN SV.cells SV.one SV.pur partsIn rowsIn splice cellsAt dstOk scal2 scal1 thenK blockK retK outK outs okC okL okA okT nilC nilL nilA nilT keepC keepL keepA keepT St.runG St.dltK St.least St.clean St.final St.hide offK badS badO SV.refs SV.leaf SV.leaf2 Ob.refs dlOk fpAt Go.Vc.cover tups SV.ofAgg St.out outC subL St.has rng wr Value.oneCell' Option.isSome_some Option.isSome_none List.nil_append Bool.false_eq_true List.map_cons List.map_nil List.all_cons List.all_nil List.length_cons List.length_nil List.drop_zero List.drop_succ_cons List.take_succ_cons List.take_zero List.drop_nil List.take_nil List.getElem?_cons_zero List.getElem?_cons_succ List.getElem?_nil List.cons_append List.nil_append List.append_nil List.append_assoc List.flatMap_cons List.flatMap_nil List.contains_cons List.contains_nil List.set_cons_zero List.set_cons_succ List.getElem?_toArray Option.getD_some Option.getD_none Option.map_some Option.map_none Option.bind_some Option.some.injEq Prod.mk.injEq if_true if_false true_and and_true and_self and_false false_and Bool.and_false Bool.false_and Bool.or_true Bool.true_or Bool.or_false Bool.false_or ne_eq not_true_eq_false not_false_eq_true decide_true decide_false List.mem_cons List.not_mem_nil List.filter_cons List.filter_nil List.any_cons List.any_nil List.isEmpty_nil List.isEmpty_cons Option.getD_none or_false false_or true_or or_true forall_eq_or_imp forall_eq reduceCtorEq exists_eq exists_eq' exists_eq_left' exists_eq_left exists_eq_right exists_eq_right' imp_self implies_true Bool.and_true Bool.true_and Bool.and_self beq_self_eq_true List.replicate_succ List.replicate_zero forall_const false_implies pickB_or pickB_and beqT beqF Int.toNat_natCast List.length_map List.length_replicate ge_iff_le gt_iff_lt decide_eq_true_eq decide_eq_false_iff_not Bool.and_eq_true Bool.or_eq_true Bool.not_eq_true' Bool.not_eq_false' condG List.toList_toArray Bool.or_eq_false_iff Bool.and_eq_false_iff Int.not_lt Int.not_le beq_iff_eq beq_eq_false_iff_ne bne_iff_ne bne_eq_false_iff_eq ne_eq Bool.not_true Bool.not_false exists_and_left
attribute [local irreducible] Go.Vc.WP
attribute [local go_sem] cx0_t cx0_c


def kRowOf1 : Ctr := pur (fun args => (oneTableRow (aC args 0), capS args 1)) (fun x => [.agg (encTableRow x.1), .rptr 1 [[.v (.string x.2)]] 0 0]) (fun _ => True) (fun _ x => .v (.bool (rowHit x.2 x.1))) (fun _ _ => [])
theorem cRowOf1 : Cn Tryz.prog 111 kRowOf1 := by
  refine Cn.pur Tryz.func111 (by kernel_rfl) rfl fun d x _ => ?_
  obtain ⟨x, s⟩ := x
  refine Holds.go (c := cx0) Tryz.func111 rfl Tryz.results111 Tryz.ntmps111 (by omega) (by simp) rfl ?_
  intro X0 w0
  have hr : Go.Vc.rowAt [[SV.v (Value.string s)]] 0 = [SV.v (Value.string s)] := rfl
  simp only [encTableRow]
  (repeat' (first | refine WP.seq ?_ | refine WP.block ?_ | ((first | refine WP.region ?_ | refine WP.condW ?_ | refine WP.ret ?_ | refine WP.exit ?_ | refine WP.skip ?_); simp only [go_sem, hr, rowHit, tyAll, Nat.reduceAdd, Nat.reduceLT, Nat.reduceLeDiff, Nat.reduceEqDiff, Nat.reduceMul, Nat.reduceSub, Nat.reduceGT, reduceIte, Int.reduceNeg, Int.reduceToNat]) |  refine And.intro ?_ ?_ | intro _))
  all_goals first | omega | skip
noncomputable def cxR1 : Cx := { P := Tryz.prog, tys := tys, C := [(111, kRowOf1)], hty := tysOk, hC := COk.cons cRowOf1 (COk.nil _) }
theorem cxR1_t : cxR1.tys = tys := rfl
theorem cxR1_c : cxR1.C = [(111, kRowOf1)] := rfl
def kIdxRow : Ctr := pur (fun args => (decTableRow (aR args 0), capS args 1)) (fun x => [.sl 3 (x.1.map encTableRow), .fn 111 [.rptr 1 [[.v (.string x.2)]] 0 0]]) (fun x => x.1.length ≤ 4398046511104)
  (fun _ x => .v (.int .i64 (firstIdx (rowHit x.2) x.1))) (fun _ _ => [])
attribute [local go_sem] cxR1_t cxR1_c kRowOf1 oneTableRow capS
theorem cIdxRow : Cn Tryz.prog 110 kIdxRow := by
  refine Cn.pur Tryz.func110 (by kernel_rfl) rfl fun d x hL => ?_
  obtain ⟨L, s⟩ := x
  simp only at hL ⊢
  refine Holds.go (c := cxR1) Tryz.func110 rfl Tryz.results110 Tryz.ntmps110 (by omega) (by simp) rfl ?_
  intro X0 w0
  (repeat' (first | refine WP.seq ?_ | refine WP.block ?_ | ((first | refine WP.region ?_ | refine WP.condW ?_ | refine WP.ret ?_ | refine WP.exit ?_ | refine WP.skip ?_); simp only [go_sem, tyAll, Nat.reduceAdd, Nat.reduceLT, Nat.reduceLeDiff, Nat.reduceEqDiff, Nat.reduceMul, Nat.reduceSub, Nat.reduceGT, reduceIte, Int.reduceNeg, Int.reduceToNat]) |  refine And.intro ?_ ?_ | intro _))
  refine WP.loop (fun k : Nat => ⟨[(0, .sl 3 (L.map encTableRow)), (1, .fn 111 [.rptr 1 [[.v (.string s)]] 0 0]), (7, .v (.int .i64 L.length)), (8, .v (.int .i64 k))], []⟩)
    (fun k => k ≤ L.length ∧ ∀ i (hi : i < L.length), i < k → rowHit s L[i] = false) (fun k => L.length - k) 0 (by simp) ?_ ?_
  · simp only [go_sem, tyAll, Nat.reduceAdd, Nat.reduceLT, Nat.reduceLeDiff, Nat.reduceEqDiff, Nat.reduceMul, Nat.reduceSub, Nat.reduceGT, reduceIte, Int.reduceNeg, Int.reduceToNat]; first | exact ⟨rfl, rfl⟩ | rfl
  intro k ⟨hk, hf⟩
  by_cases hlt : k < L.length
  · have h1 := rowAt_map encTableRow L k hlt
    (repeat' (first | refine WP.seq ?_ | refine WP.block ?_ | ((first | refine WP.region ?_ | refine WP.condW ?_ | refine WP.ret ?_ | refine WP.exit ?_ | refine WP.skip ?_); simp only [go_sem, h1, encTableRow, tyAll, Nat.reduceAdd, Nat.reduceLT, Nat.reduceLeDiff, Nat.reduceEqDiff, Nat.reduceMul, Nat.reduceSub, Nat.reduceGT, reduceIte, Int.reduceNeg, Int.reduceToNat]) |  refine And.intro ?_ ?_ | intro _))
    all_goals first | omega | skip
    · rename_i hh
      rw [firstIdx_hit (p := rowHit s) hlt hf (by first | exact hh | simpa [rowHit] using hh)]
    · rename_i hh
      refine ⟨k + 1, ⟨by omega, fun i hi hik => ?_⟩, by omega, rfl⟩
      rcases Nat.lt_or_ge i k with h | h
      · exact hf i hi h
      · have : i = k := by omega
        subst this
        first | exact hh | simpa [rowHit] using hh
  · (repeat' (first | refine WP.seq ?_ | refine WP.block ?_ | ((first | refine WP.region ?_ | refine WP.condW ?_ | refine WP.ret ?_ | refine WP.exit ?_ | refine WP.skip ?_); simp only [go_sem, tyAll, Nat.reduceAdd, Nat.reduceLT, Nat.reduceLeDiff, Nat.reduceEqDiff, Nat.reduceMul, Nat.reduceSub, Nat.reduceGT, reduceIte, Int.reduceNeg, Int.reduceToNat]) |  refine And.intro ?_ ?_ | intro _))
    all_goals first | omega | skip
    rw [firstIdx_none fun i hi => hf i hi (by omega)]

def kRowOf : Ctr := pur (fun args => (decTableRow (aR args 0), aS args 1)) (fun x => [.sl 3 (x.1.map encTableRow), .v (.string x.2)]) (fun x => x.1.length ≤ 4398046511104) (fun _ x => .v (.int .i64 (firstIdx (rowHit x.2) x.1))) (fun _ _ => [])
noncomputable def cxR2 : Cx := { P := Tryz.prog, tys := tys, C := [(110, kIdxRow)], hty := tysOk, hC := COk.cons cIdxRow (COk.nil _) }
theorem cxR2_t : cxR2.tys = tys := rfl
theorem cxR2_c : cxR2.C = [(110, kIdxRow)] := rfl
attribute [local go_sem] cxR2_t cxR2_c kIdxRow decTableRow_enc
theorem cRowOfI : Cn Tryz.prog 72 kRowOf := by
  refine Cn.pur Tryz.func72 (by kernel_rfl) rfl fun d x hL => ?_
  obtain ⟨L, s⟩ := x
  simp only at hL ⊢
  refine Holds.go (c := cxR2) Tryz.func72 rfl Tryz.results72 Tryz.ntmps72 (by omega) (by simp) rfl ?_
  intro X0 w0
  (repeat' (first | refine WP.seq ?_ | refine WP.block ?_ | ((first | refine WP.region ?_ | refine WP.condW ?_ | refine WP.ret ?_ | refine WP.exit ?_ | refine WP.skip ?_); simp only [go_sem, tyAll, Nat.reduceAdd, Nat.reduceLT, Nat.reduceLeDiff, Nat.reduceEqDiff, Nat.reduceMul, Nat.reduceSub, Nat.reduceGT, reduceIte, Int.reduceNeg, Int.reduceToNat]) |  refine And.intro ?_ ?_ | intro _))
  all_goals first | omega | skip
theorem cRowOfS : Cn Tryz.prog 69 kRowOf := by
  refine Cn.pur Tryz.func69 (by kernel_rfl) rfl fun d x hL => ?_
  obtain ⟨L, s⟩ := x
  simp only at hL ⊢
  refine Holds.go (c := cx0) Tryz.func69 rfl Tryz.results69 Tryz.ntmps69 (by omega) (by simp) rfl ?_
  intro X0 w0
  (repeat' (first | refine WP.seq ?_ | refine WP.block ?_ | ((first | refine WP.region ?_ | refine WP.condW ?_ | refine WP.ret ?_ | refine WP.exit ?_ | refine WP.skip ?_); simp only [go_sem, tyAll, Nat.reduceAdd, Nat.reduceLT, Nat.reduceLeDiff, Nat.reduceEqDiff, Nat.reduceMul, Nat.reduceSub, Nat.reduceGT, reduceIte, Int.reduceNeg, Int.reduceToNat]) |  refine And.intro ?_ ?_ | intro _))
  refine WP.loop (fun k : Nat => ⟨[(0, .sl 3 (L.map encTableRow)), (1, .v (.string s)), (5, .v (.int .i64 k))], []⟩)
    (fun k => k ≤ L.length ∧ ∀ i (hi : i < L.length), i < k → rowHit s L[i] = false) (fun k => L.length - k) 0 (by simp) ?_ ?_
  · simp only [go_sem, tyAll, Nat.reduceAdd, Nat.reduceLT, Nat.reduceLeDiff, Nat.reduceEqDiff, Nat.reduceMul, Nat.reduceSub, Nat.reduceGT, reduceIte, Int.reduceNeg, Int.reduceToNat]; first | exact ⟨rfl, rfl⟩ | rfl
  intro k ⟨hk, hf⟩
  by_cases hlt : k < L.length
  · have h1 := rowAt_map encTableRow L k hlt
    (repeat' (first | refine WP.seq ?_ | refine WP.block ?_ | ((first | refine WP.region ?_ | refine WP.condW ?_ | refine WP.ret ?_ | refine WP.exit ?_ | refine WP.skip ?_); simp only [go_sem, h1, encTableRow, tyAll, Nat.reduceAdd, Nat.reduceLT, Nat.reduceLeDiff, Nat.reduceEqDiff, Nat.reduceMul, Nat.reduceSub, Nat.reduceGT, reduceIte, Int.reduceNeg, Int.reduceToNat]) | (refine WP.drawW 9 (by kernel_rfl) (by kernel_rfl) ?_; simp only [go_sem, h1, encTableRow, tyAll, Nat.reduceAdd, Nat.reduceLT, Nat.reduceLeDiff, Nat.reduceEqDiff, Nat.reduceMul, Nat.reduceSub, Nat.reduceGT, reduceIte, Int.reduceNeg, Int.reduceToNat]) |  refine And.intro ?_ ?_ | intro _))
    all_goals first | omega | skip
    · rename_i hh
      rw [firstIdx_hit (p := rowHit s) hlt hf (by first | exact hh | simpa [rowHit] using hh)]
    · rename_i hh
      refine ⟨k + 1, ⟨by omega, fun i hi hik => ?_⟩, by omega, rfl⟩
      rcases Nat.lt_or_ge i k with h | h
      · exact hf i hi h
      · have : i = k := by omega
        subst this
        first | exact hh | simpa [rowHit] using hh
  · (repeat' (first | refine WP.seq ?_ | refine WP.block ?_ | ((first | refine WP.region ?_ | refine WP.condW ?_ | refine WP.ret ?_ | refine WP.exit ?_ | refine WP.skip ?_); simp only [go_sem, tyAll, Nat.reduceAdd, Nat.reduceLT, Nat.reduceLeDiff, Nat.reduceEqDiff, Nat.reduceMul, Nat.reduceSub, Nat.reduceGT, reduceIte, Int.reduceNeg, Int.reduceToNat]) |  refine And.intro ?_ ?_ | intro _))
    all_goals first | omega | skip
    rw [firstIdx_none fun i hi => hf i hi (by omega)]

attribute [local go_sem] kszTableRowS ktoTableRowS keqTableRowS kRowOf isV_TableRow
end Go.Proofs.YtolnapfgfdgifaaGreatDoor

/-
  DERIVED. Plain lists: one step of a table's rows as cells.
-/
namespace Go.Proofs.YtolnapfgfdgifaaGreatDoor
open Go.Vc Go.Pl
set_option linter.unusedVariables false
theorem tab_row {L : List TableRow} {p : Nat} (hp : p < L.length) : Go.Vc.rowAt (L.map encTableRow) p = encTableRow (L.getD p default) := by
  rw [rowAt_map encTableRow L p hp, List.getD_eq_getElem?_getD, List.getElem?_eq_getElem hp]; rfl
theorem tab_set (L : List TableRow) (p : Nat) (g : TableRow → TableRow) : (L.map encTableRow).set p (encTableRow (g (L.getD p default))) = (setAt L p g).map encTableRow := by
  unfold setAt; rw [← List.map_set]
theorem setAt_get {L : List TableRow} {p : Nat} (hp : p < L.length) (g : TableRow → TableRow) : (setAt L p g).getD p default = g (L.getD p default) := by
  unfold setAt
  rw [List.getD_eq_getElem?_getD, List.getElem?_set, if_pos rfl]
  simp [hp]
theorem idx_first {ns : List ByteArray} {i : Nat} (hi : i < ns.length) : (firstIdx (strIs ns[i]) ns = (i : Int)) = (ns[i] ∉ ns.take i) := propext ⟨fun h hm => by
  obtain ⟨j, hj, he⟩ := List.mem_take_iff_getElem.1 hm
  have hlt : j < i := by omega
  obtain ⟨q, hq, h1, h2⟩ := firstIdx_pos (p := strIs ns[i]) (L := ns) (by omega)
  have hqi : q = i := by omega
  subst hqi
  unfold firstIdx at h
  split at h
  · rename_i z hz
    have hzi : z = q := by omega
    subst hzi
    have := (List.findIdx?_eq_some_iff_getElem.1 hz).2.2 j hlt
    rw [show ns[j] = ns[z] from he] at this
    simp [strIs] at this
  · omega, fun h => by
  refine firstIdx_hit hi (fun j hj hji => ?_) (by simp [strIs])
  have : ns[j] ≠ ns[i] := fun e => h (List.mem_take_iff_getElem.2 ⟨j, by omega, e⟩)
  simp [strIs, this]⟩
/-- what a step needs of the rows: where the name's row is, and what is in it -/
theorem tab_at (L : List TableRow) (s : ByteArray) : ∃ (L2 : List TableRow) (p : Nat) (r : TableRow), rowAdd L s = L2 ∧ rowPos L s = p ∧ p < L2.length ∧ L2.getD p default = r ∧ r.name = s := ⟨_, _, _, rfl, rfl, (rowPos_lt L s).1, rfl, (rowPos_lt L s).2⟩
theorem rowAdd_new {L : List TableRow} {s : ByteArray} (h : firstIdx (rowHit s) L < 0) : (L.map encTableRow ++ [[SV.v (.string s), SV.v (.int .i64 0), SV.v (.int .i64 0)]]) = (rowAdd L s).map encTableRow ∧ rowPos L s = L.length := by
  unfold rowAdd rowPos
  rw [if_pos h, if_pos h, List.map_append]
  exact ⟨rfl, rfl⟩
theorem rowAdd_old {L : List TableRow} {s : ByteArray} (h : ¬ firstIdx (rowHit s) L < 0) : rowAdd L s = L ∧ firstIdx (rowHit s) L = (rowPos L s : Int) := by
  unfold rowAdd rowPos
  rw [if_neg h, if_neg h]
  exact ⟨rfl, by omega⟩
section
variable {c : Int} {ns : List ByteArray} {L L0 L2 : List TableRow} {i p : Nat}
theorem step_any (hi : i < ns.length) (h2 : rowAdd (tabK c ns L i) ns[i] = L2) (hp : rowPos (tabK c ns L i) ns[i] = p) : tabK c ns L (i + 1) = (if i + 1 = ns.length then setAt (if ns[i] ∈ ns.take i then L2 else setAt L2 p (upTot c)) p (upSelf c) else (if ns[i] ∈ ns.take i then L2 else setAt L2 p (upTot c))) := by
  have hs : ns.getD i ⟨#[]⟩ = ns[i] := by rw [List.getD_eq_getElem?_getD, List.getElem?_eq_getElem hi]; rfl
  rw [tabK]
  unfold tabStep
  simp only [hs, h2, hp]
end
theorem namesE_len {N : List Node} {C : List Int} (hN : N.length ≤ 1048576) {e : Entry} (h : e ∈ entriesOf N C) : (namesE e).length ≤ 1048576 := by
  unfold namesE; rw [List.length_map]; exact (ent_sizes hN h).2.1
theorem tabE_len {B : Nat} {E : List Entry} (h : ∀ e ∈ E, (namesE e).length ≤ B) : ∀ k, k ≤ E.length → (tabE (E.take k)).length ≤ B * k
  | 0, _ => by simp [tabE]
  | k + 1, hk => by
    have hk' : k < E.length := by omega
    have ih := tabE_len h k (by omega)
    have h1 := h _ (List.getElem_mem hk')
    have h2 := tabK_len E[k].count (namesE E[k]) (tabE (E.take k)) (namesE E[k]).length
    rw [tabE_succ hk', Nat.mul_add, Nat.mul_one]
    omega
end Go.Proofs.YtolnapfgfdgifaaGreatDoor

/-
  DERIVED. The library's sort of table rows, as the program calls it.
-/
namespace Go.Proofs.YtolnapfgfdgifaaGreatDoor
open Go.Vc Go.Pl Go.Shelf Go.RowKit Go.Lib Go.Sort
set_option linter.unusedVariables false
def cfT (x y : TableRow) : Int := if y.total < x.total then -1 else if x.total < y.total then 1 else compareBytes x.name.data.toList y.name.data.toList
theorem ltT_cf (x y : TableRow) : ltOf cfT x y = ltT x y := by
  unfold ltOf cfT ltT
  by_cases h1 : y.total < x.total
  · rw [if_pos h1]; simp [h1]
  · rw [if_neg h1]
    by_cases h2 : x.total < y.total
    · rw [if_pos h2]
      have : ¬ x.total = y.total := by omega
      simp [h1, this]
    · rw [if_neg h2]
      have : x.total = y.total := by omega
      have h3 := cmp_less x.name.data.toList y.name.data.toList
      rw [toList_data, toList_data] at h3
      unfold ltS
      simp [this, ← h3, toList_data]
theorem ltT_ntrans {a b c : TableRow} (h1 : ltT a b = false) (h2 : ltT b c = false) : ltT a c = false := by
  simp only [ltT, Bool.or_eq_false_iff, decide_eq_false_iff_not, Bool.and_eq_false_iff] at h1 h2 ⊢
  refine ⟨by omega, ?_⟩
  by_cases he : a.total = c.total
  · right
    have e1 : a.total = b.total := by omega
    have e2 : b.total = c.total := by omega
    have h3 := h1.2.resolve_left (fun h => h e1)
    have h4 := h2.2.resolve_left (fun h => h e2)
    exact ltS_ntrans h3 h4
  · left; exact he
theorem swoT : SWO (ltOf cfT) := ⟨fun x => by rw [ltT_cf]; exact ltT_strict.irrefl _, fun x y z h1 h2 => by rw [ltT_cf] at h1 h2 ⊢; exact ltT_strict.trans _ _ _ h1 h2, fun x y z h1 h2 => by rw [ltT_cf] at h1 h2 ⊢; exact ltT_ntrans h1 h2⟩
def vTableRow (x : TableRow) : List Value := [.string x.name, .int .i64 x.self, .int .i64 x.total]
set_option maxHeartbeats 1000000 in
set_option maxRecDepth 100000 in
theorem closureT (x y : TableRow) (W : World) : Calls Tryz.prog 75 #[.agg #[.string x.name, .int .i64 x.self, .int .i64 x.total], .agg #[.string y.name, .int .i64 y.self, .int .i64 y.total]] W fun e w' => e = .returned (.int .i64 (cfT x y)) ∧ ∃ q os', w' = grow (W.drewN q) os' := by
  unfold cfT
  have hcon := fun W' => Any.strings_Compare Tryz.l106 x.name y.name W'
  change ∀ W', Calls Tryz.prog 76 _ _ _ at hcon
  generalize Lib.compareBytes x.name.data.toList y.name.data.toList = r at hcon ⊢
  go_enter Tryz.func75, Tryz.ntmps75
  by_cases h1 : y.total < x.total
  · rw [if_pos h1]
    go_wp2
    go_ret
    exact ⟨rfl, 0, _, by rw [alloc_eq_grow, alloc_eq_grow, grow_grow]; rfl⟩
  rw [if_neg h1]
  by_cases h2 : x.total < y.total
  · rw [if_pos h2]
    go_wp2
    go_ret
    exact ⟨rfl, 0, _, by rw [alloc_eq_grow, alloc_eq_grow, grow_grow]; rfl⟩
  rw [if_neg h2]
  go_wp2_with (go_at_call 76; refine (hcon _).mono ?_; rintro e w' ⟨rfl, rfl⟩)
  go_ret
  exact ⟨rfl, 0, _, by rw [alloc_eq_grow, alloc_eq_grow, grow_grow]; rfl⟩
def kSortT : Ctr := len [0] [] (fun args obs => decTableRow (oR obs 1000000)) (fun x => [.own 1000000, .fn 75 []]) (fun x => [(1000000, .sl 87 3 (x.map encTableRow))])
  (fun x => x.length ≤ 1099511627776 ∧ x.Pairwise fun a b => ltT a b = true ∨ ltT b a = true) (fun _ x => .tup []) (fun _ _ => []) (fun x => [(1000000, .sl 87 3 ((insAll ltT x).map encTableRow))])
theorem cSortT : Cn Tryz.prog 74 kSortT := by
  refine Cn.len Tryz.func74 (by kernel_rfl) rfl fun d x hd hx => ?_
  have eg : ∀ args w, (callFunc 75 args).run Tryz.prog w = .ok (.enter 75 args) w := enters_of Tryz.func75 (by kernel_rfl) rfl
  have h := sortK_holdsL Tryz.lSlF06_74 3 (by omega) Tryz.isAgg87 Tryz.sizeOf87 vTableRow (fun _ => rfl) (fun x v hv => by simp [vTableRow] at hv; rcases hv with rfl | rfl | rfl <;> rfl) cfT swoT 75 eg
    (fun blk off size w _ _ _ _ x y => closureT x y _) ltT ltT_cf ltT_strict 87 x hx.1 hx.2
  rw [vrows_map vTableRow encTableRow (fun _ => rfl), vrows_map vTableRow encTableRow (fun _ => rfl)] at h
  exact h
end Go.Proofs.YtolnapfgfdgifaaGreatDoor
