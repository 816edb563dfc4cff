/-
  DERIVED. Several texts of ours in one: VgEntry, VpEnt, VtStk, VtPrf, VtStk3, VtPrf2, VsLay, VpCut.
-/
import Derived.Test.YtolnapfgfdgifaaGreatDoorVo0
import Derived.Test.YtolnapfgfdgifaaGreatDoorVo1
import Derived.Test.YtolnapfgfdgifaaGreatDoorVo2
import Derived.Test.YtolnapfgfdgifaaGreatDoorVo3
import Derived.Test.YtolnapfgfdgifaaGreatDoorVo4
import Derived.Test.YtolnapfgfdgifaaGreatDoorVo5
import Derived.Shelf.LaysM
import Derived.Shelf.Small.Strs
import Derived.Shelf.Strings.OnBuilder
import Derived.Test.YtolnapfgfdgifaaGreatDoorProg
import Derived.Lib.Split
import Derived.Lib.SplitLaws
import Derived.Lib.CountLaws
import Derived.Lib.ItoaNum
import Derived.Lib.IndexMore
set_option linter.unusedSimpArgs false
set_option linter.unusedVariables false
/-
  DERIVED. The struct Entry: its cells, and what the law's helpers do with it. Printed by program (fam.py).
-/
namespace Go.Proofs.YtolnapfgfdgifaaGreatDoor
open Go.Vc
set_option linter.unusedSimpArgs false
set_option linter.unusedVariables false
set_option maxHeartbeats 1000000
attribute [local go_sem] St.runR St.runW St.stepV offV St.step St.stepU St.stepG mkCond guardB St.prK St.pr St.prLen St.eff St.callE St.callD St.callF St.callL aI aB aS aR aC St.isM St.argL Ctr.pure Ctr.lend Ctr.move Ctr.isL Ctr.wri pur len lentBy St.lentV St.lent1 nthS argsR restOf obsR pairs swapL unObs backL St.resL erL SV.ren1 SV.up SV.up2 Ob.up St.fzL cellIds partIds St.intoRow SV.ownId St.fz SV.fz1 St.prep St.mvL St.mv SV.re1 rnOk St.prEq vals eqCells scEq Value.kd St.prStr St.prCut cutR St.bnd St.prMin St.bld isShift outL retL outJ oR oC St.ev St.get St.put St.new St.kill SV.kill SV.kill1 Ob.kill St.app St.wrt St.rowsOf St.res St.killL lk er argsL SV.strip SV.need SV.share SV.share1 SV.owns SV.owns1 SV.owns2 SV.good SV.good1 SV.rok SV.rok1 SV.rok2 SV.isV SV.isV2 nodupN SV.cells SV.one SV.pur partsIn rowsIn splice cellsAt dstOk scal2 scal1 thenK blockK retK outK outs okC okL okA okT nilC nilL nilA nilT keepC keepL keepA keepT St.runG St.dltK St.least St.clean St.final St.hide offK badS badO SV.refs SV.leaf SV.leaf2 Ob.refs dlOk fpAt Go.Vc.cover tups SV.ofAgg St.out outC subL St.has rng wr Value.oneCell' Option.isSome_some Option.isSome_none List.nil_append Bool.false_eq_true List.map_cons List.map_nil List.all_cons List.all_nil List.length_cons List.length_nil List.drop_zero List.drop_succ_cons List.take_succ_cons List.take_zero List.drop_nil List.take_nil List.getElem?_cons_zero List.getElem?_cons_succ List.getElem?_nil List.cons_append List.nil_append List.append_nil List.append_assoc List.flatMap_cons List.flatMap_nil List.contains_cons List.contains_nil List.set_cons_zero List.set_cons_succ List.getElem?_toArray Option.getD_some Option.getD_none Option.map_some Option.map_none Option.bind_some Option.some.injEq Prod.mk.injEq if_true if_false true_and and_true and_self and_false false_and Bool.and_false Bool.false_and Bool.or_true Bool.true_or Bool.or_false Bool.false_or ne_eq not_true_eq_false not_false_eq_true decide_true decide_false List.mem_cons List.not_mem_nil List.filter_cons List.filter_nil List.any_cons List.any_nil List.isEmpty_nil List.isEmpty_cons Option.getD_none or_false false_or true_or or_true forall_eq_or_imp forall_eq reduceCtorEq exists_eq exists_eq' exists_eq_left' exists_eq_left exists_eq_right exists_eq_right' imp_self implies_true Bool.and_true Bool.true_and Bool.and_self beq_self_eq_true List.replicate_succ List.replicate_zero forall_const false_implies pickB_or pickB_and beqT beqF Int.toNat_natCast List.length_map List.length_replicate ge_iff_le gt_iff_lt decide_eq_true_eq decide_eq_false_iff_not Bool.and_eq_true Bool.or_eq_true Bool.not_eq_true' Bool.not_eq_false' condG List.toList_toArray Bool.or_eq_false_iff Bool.and_eq_false_iff Int.not_lt Int.not_le beq_iff_eq beq_eq_false_iff_ne bne_iff_ne bne_eq_false_iff_eq ne_eq Bool.not_true Bool.not_false exists_and_left
attribute [local irreducible] Go.Vc.WP
attribute [local go_sem] cx0_t cx0_c

structure Entry where
  stack : ByteArray
  count : Int
deriving DecidableEq
def encEntry (x : Entry) : List SV := [.v (.string x.stack), .v (.int .i64 x.count)]
def oneEntry : List SV → Entry
  | [.v (.string stack), .v (.int _ count)] => ⟨stack, count⟩
  | _ => ⟨⟨#[]⟩, 0⟩
def decEntry (rows : List (List SV)) : List Entry := rows.map oneEntry
theorem oneEntry_enc (x : Entry) : oneEntry (encEntry x) = x := rfl
theorem decEntry_enc (L : List Entry) : decEntry (L.map encEntry) = L := by
  unfold decEntry
  rw [List.map_map]
  exact List.map_id'' oneEntry_enc L
theorem isV_Entry {e s : Nat} (L : List Entry) : (Ob.sl e s (L.map encEntry)).isV ↔ True := iff_true_intro (by
  intro row hr c hc
  obtain ⟨n, _, rfl⟩ := List.mem_map.1 hr
  simp only [encEntry, List.mem_cons, List.not_mem_nil, or_false] at hc
  rcases hc with rfl | rfl <;> exact ⟨_, rfl⟩)
def zerEntry : List SV := [.v (.string ⟨#[]⟩), .v (.int .i64 0)]

def keqEntry : Ctr := pur (fun args => (oneEntry (aC args 0), oneEntry (aC args 1))) (fun x => [.agg (encEntry x.1), .agg (encEntry x.2)]) (fun _ => True) (fun _ x => .v (.bool (decide (x.1 = x.2)))) (fun _ _ => [])
theorem ceqEntry : Cn Tryz.prog 66 keqEntry := by
  refine Cn.pur Tryz.func66 (by kernel_rfl) rfl fun d x _ => ?_
  obtain ⟨⟨a0, a1⟩, ⟨b0, b1⟩⟩ := x
  refine Holds.go (c := cx0) Tryz.func66 rfl Tryz.results66 Tryz.ntmps66 (by omega) (by simp) rfl ?_
  intro X0 w0
  simp only [encEntry]
  (repeat' (first | refine WP.seq ?_ | refine WP.block ?_ | ((first | refine WP.region ?_ | refine WP.condW ?_ | refine WP.ret ?_ | refine WP.exit ?_ | refine WP.skip ?_); simp only [go_sem, tyAll, Nat.reduceAdd, Nat.reduceLT, Nat.reduceLeDiff, Nat.reduceEqDiff, Nat.reduceMul, Nat.reduceSub, Nat.reduceGT, reduceIte, Int.reduceNeg, Int.reduceToNat]) |  refine And.intro ?_ ?_ | intro _))
  all_goals simp_all
end Go.Proofs.YtolnapfgfdgifaaGreatDoor

/-
  DERIVED. Plain lists: a profile's entries, and a profile of entries.
-/
namespace Go.Proofs.YtolnapfgfdgifaaGreatDoor
set_option linter.unusedVariables false
open Go.Pl

def ltE (a b : Entry) : Bool := ltS a.stack b.stack
theorem ltE_strict : Strict ltE := ⟨fun a => ltS_irrefl _, fun a b c h1 h2 => ltS_trans h1 h2⟩
theorem ltE_ne {a b : Entry} (h : a.stack ≠ b.stack) : ltE a b = true ∨ ltE b a = true := by
  cases h1 : ltE a b with
  | true => exact .inl rfl
  | false => exact .inr (ltS_gt h1 h)
/-- entry k, if it counts -/
def entAt (N : List Node) (C : List Int) (k : Nat) : Option Entry := if C.getD k 0 = 0 then none else some ⟨fmtF (stackAt N k), C.getD k 0⟩
def rawE (N : List Node) (C : List Int) (n : Nat) : List Entry := (List.range n).filterMap (entAt N C)
theorem rawE_zero (N : List Node) (C : List Int) : rawE N C 0 = [] := rfl
theorem rawE_succ (N : List Node) (C : List Int) (n : Nat) : rawE N C (n + 1) = rawE N C n ++ (entAt N C n).toList := by
  unfold rawE
  rw [List.range_succ, List.filterMap_append, List.filterMap_cons, List.filterMap_nil]
  cases entAt N C n <;> rfl
theorem rawE_len (N : List Node) (C : List Int) (n : Nat) : (rawE N C n).length ≤ n := by
  have := List.length_filterMap_le (entAt N C) (List.range n)
  simpa [rawE] using this
theorem rawE_mem {N : List Node} {C : List Int} {n : Nat} {x : Entry} (h : x ∈ rawE N C n) : ∃ k, k < n ∧ C.getD k 0 ≠ 0 ∧ x = ⟨fmtF (stackAt N k), C.getD k 0⟩ := by
  unfold rawE at h
  obtain ⟨k, hk, he⟩ := List.mem_filterMap.1 h
  unfold entAt at he
  split at he
  · cases he
  · rename_i h0
    exact ⟨k, by simpa using hk, h0, (Option.some.inj he).symm⟩
/-- no two entries have one stack -/
theorem rawE_apart {N : List Node} (hok : stacksOk N = true) (C : List Int) : ∀ n, n ≤ N.length → (rawE N C n).Pairwise fun a b => a.stack ≠ b.stack
  | 0, _ => List.Pairwise.nil
  | n + 1, hn => by
    rw [rawE_succ, List.pairwise_append]
    refine ⟨rawE_apart hok C n (by omega), ?_, fun a ha b hb => ?_⟩
    · cases entAt N C n <;> simp
    · obtain ⟨k, hk, _, rfl⟩ := rawE_mem ha
      have : b = ⟨fmtF (stackAt N n), C.getD n 0⟩ := by
        unfold entAt at hb
        split at hb
        · simp at hb
        · simpa using hb
      subst this
      intro e
      have h1 := fmtF_inj (stackAt_ok N k) (stackAt_ok N n) (stackAt_ne hok k (by omega)) (stackAt_ne hok n (by omega)) e
      have := stackAt_inj hok (by omega) (by omega) h1
      omega
theorem rawE_pair {N : List Node} (hok : stacksOk N = true) (C : List Int) (n : Nat) (hn : n ≤ N.length) : (rawE N C n).Pairwise fun a b => ltE a b = true ∨ ltE b a = true :=
  (rawE_apart hok C n hn).imp fun h => ltE_ne h
def entriesOf (N : List Node) (C : List Int) : List Entry := if profileOk N C = true then insAll ltE (rawE N C C.length) else []
theorem entriesOf_len (N : List Node) (C : List Int) : (entriesOf N C).length ≤ C.length := by
  unfold entriesOf
  split
  · rw [insAll_len]; exact rawE_len N C C.length
  · simp
/-- what an entry of a profile is -/
theorem entriesOf_mem {N : List Node} {C : List Int} {x : Entry} (h : x ∈ entriesOf N C) : profileOk N C = true ∧ ∃ k : Nat, k < N.length ∧ x.stack = fmtF (stackAt N k) ∧ C[k]? = some x.count ∧ 0 < x.count ∧ x.count ≤ 1000000000000 := by
  unfold entriesOf at h
  split at h
  · rename_i hp
    have hp' := profileOk_iff.1 hp
    obtain ⟨k, hk, h0, rfl⟩ := rawE_mem (insAll_mem.1 h)
    have hg : C.getD k 0 = C[k] := by rw [List.getD_eq_getElem?_getD, List.getElem?_eq_getElem hk]; rfl
    have hc := cntOk_at hp'.2.2 k hk
    have hs := profileOk_sum hp k (by omega)
    simp only [hg] at h0 ⊢
    exact ⟨hp, k, by omega, rfl, List.getElem?_eq_getElem hk, by omega, by omega⟩
  · cases h
theorem entriesOf_size {N : List Node} {C : List Int} {x : Entry} (h : x ∈ entriesOf N C) : x.stack.size ≤ 12 * N.length := by
  obtain ⟨_, k, _, hs, _⟩ := entriesOf_mem h
  have h1 := fmtF_size (stackAt N k)
  have h2 := stackAt_len N k
  rw [hs]
  have := Nat.mul_le_mul_left 12 h2
  omega
/-- .. is read again -/
theorem entriesOf_parse {N : List Node} {C : List Int} {x : Entry} (h : x ∈ entriesOf N C) : ∃ k : Nat, k < N.length ∧ x.stack = fmtF (stackAt N k) ∧ parseF x.stack = some (stackAt N k) ∧ stackAt N k ≠ [] := by
  obtain ⟨hp, k, hk, hs, _⟩ := entriesOf_mem h
  have hok := (profileOk_iff.1 hp).1
  refine ⟨k, hk, hs, ?_, stackAt_ne hok k hk⟩
  rw [hs]
  exact parseF_fmtF (stackAt_ok N k) (stackAt_ne hok k hk)

def profGo : List Entry → List Node × List Int → Option (List Node × List Int)
  | [], s => some s
  | e :: l, s => match parseF e.stack with
    | some f => if (addStack s.1 s.2 f e.count).2 = true then profGo l (addStack s.1 s.2 f e.count).1 else none
    | none => none
def profileOf (L : List Entry) : Option (List Node × List Int) := profGo L ([], [])
theorem profGo_no {e : Entry} {l : List Entry} {s : List Node × List Int} (h : parseF e.stack = none) : profGo (e :: l) s = none := by rw [profGo, h]
theorem profGo_bad {e : Entry} {l : List Entry} {s : List Node × List Int} {f : List Frame} (h : parseF e.stack = some f) (hb : (addStack s.1 s.2 f e.count).2 = false) : profGo (e :: l) s = none := by
  rw [profGo, h]; simp only; rw [hb]; rfl
theorem profGo_ok {e : Entry} {l : List Entry} {s : List Node × List Int} {f : List Frame} (h : parseF e.stack = some f) (hb : (addStack s.1 s.2 f e.count).2 = true) : profGo (e :: l) s = profGo l (addStack s.1 s.2 f e.count).1 := by
  rw [profGo, h]; simp only; rw [if_pos hb]
theorem addStack_ok {N : List Node} {C : List Int} {L : List Frame} {n : Int} (h : (addStack N C L n).2 = true) : profileOk (addStack N C L n).1.1 (addStack N C L n).1.2 = true := by
  unfold addStack at h ⊢
  split
  · rename_i hh; exact hh.2.2.2.2
  · rename_i hh; rw [if_neg hh] at h; cases h
theorem addStack_no {N : List Node} {C : List Int} {L : List Frame} {n : Int} (h : (addStack N C L n).2 = false) : (addStack N C L n).1 = (N, C) := by
  unfold addStack at h ⊢
  split
  · rename_i hh; rw [if_pos hh] at h; cases h
  · rfl
theorem addC_len (C : List Int) (m k : Nat) (n : Int) : (addC C m k n).length = max C.length m := by
  simp [addC]; omega
theorem addStack_len (N : List Node) (C : List Int) (L : List Frame) (n : Int) : (addStack N C L n).1.1.length ≤ N.length + L.length ∧ (addStack N C L n).1.2.length ≤ max C.length (N.length + L.length) := by
  have := intern_len N L
  unfold addStack
  split
  · simp only [addC_len]; omega
  · simp only; omega
theorem addStack_names {B : Nat} {N : List Node} {C : List Int} {L : List Frame} {n : Int} (h : ∀ x ∈ N, x.name.size ≤ B) (hL : ∀ f ∈ L, f.name.size ≤ B) : ∀ x ∈ (addStack N C L n).1.1, x.name.size ≤ B := by
  unfold addStack
  split
  · exact intern_names h hL
  · exact h
end Go.Proofs.YtolnapfgfdgifaaGreatDoor

/-
  DERIVED. Frames and interned stacks, of the reference and of the program.
-/
namespace Go.Proofs.YtolnapfgfdgifaaGreatDoor
open Go.Vc
set_option linter.unusedSimpArgs false
set_option linter.unusedVariables false
set_option maxHeartbeats 1000000
set_option maxRecDepth 10000
attribute [local go_sem] St.runR St.runW St.stepV offV St.step St.stepU St.stepG mkCond guardB St.prK St.pr St.prLen St.eff St.callE St.callD St.callF St.callL aI aB aS aR aC St.isM St.argL Ctr.pure Ctr.lend Ctr.move Ctr.isL Ctr.wri pur len lentBy St.lentV St.lent1 nthS argsR restOf obsR pairs swapL unObs backL St.resL erL SV.ren1 SV.up SV.up2 Ob.up St.fzL cellIds partIds St.intoRow SV.ownId St.fz SV.fz1 St.prep St.mvL St.mv SV.re1 rnOk St.prEq vals eqCells scEq Value.kd St.prStr St.prCut cutR St.bnd St.prMin St.bld isShift outL retL outJ oR oC St.ev St.get St.put St.new St.kill SV.kill SV.kill1 Ob.kill St.app St.wrt St.rowsOf St.res St.killL lk er argsL SV.strip SV.need SV.share SV.share1 SV.owns SV.owns1 SV.owns2 SV.good SV.good1 SV.rok SV.rok1 SV.rok2 SV.isV SV.isV2 nodupN SV.cells SV.one SV.pur partsIn rowsIn splice cellsAt dstOk scal2 scal1 thenK blockK retK outK outs okC okL okA okT nilC nilL nilA nilT keepC keepL keepA keepT St.runG St.dltK St.least St.clean St.final St.hide offK badS badO SV.refs SV.leaf SV.leaf2 Ob.refs dlOk fpAt Go.Vc.cover tups SV.ofAgg St.out outC subL St.has rng wr Value.oneCell' Option.isSome_some Option.isSome_none List.nil_append Bool.false_eq_true List.map_cons List.map_nil List.all_cons List.all_nil List.length_cons List.length_nil List.drop_zero List.drop_succ_cons List.take_succ_cons List.take_zero List.drop_nil List.take_nil List.getElem?_cons_zero List.getElem?_cons_succ List.getElem?_nil List.cons_append List.nil_append List.append_nil List.append_assoc List.flatMap_cons List.flatMap_nil List.contains_cons List.contains_nil List.set_cons_zero List.set_cons_succ List.getElem?_toArray Option.getD_some Option.getD_none Option.map_some Option.map_none Option.bind_some Option.some.injEq Prod.mk.injEq if_true if_false true_and and_true and_self and_false false_and Bool.and_false Bool.false_and Bool.or_true Bool.true_or Bool.or_false Bool.false_or ne_eq not_true_eq_false not_false_eq_true decide_true decide_false List.mem_cons List.not_mem_nil List.filter_cons List.filter_nil List.any_cons List.any_nil List.isEmpty_nil List.isEmpty_cons Option.getD_none or_false false_or true_or or_true forall_eq_or_imp forall_eq reduceCtorEq exists_eq exists_eq' exists_eq_left' exists_eq_left exists_eq_right exists_eq_right' imp_self implies_true Bool.and_true Bool.true_and Bool.and_self beq_self_eq_true List.replicate_succ List.replicate_zero forall_const false_implies pickB_or pickB_and beqT beqF Int.toNat_natCast List.length_map List.length_replicate ge_iff_le gt_iff_lt decide_eq_true_eq decide_eq_false_iff_not Bool.and_eq_true Bool.or_eq_true Bool.not_eq_true' Bool.not_eq_false' condG List.toList_toArray Bool.or_eq_false_iff Bool.and_eq_false_iff Int.not_lt Int.not_le beq_iff_eq beq_eq_false_iff_ne bne_iff_ne bne_eq_false_iff_eq ne_eq Bool.not_true Bool.not_false exists_and_left
attribute [local irreducible] Go.Vc.WP
attribute [local go_sem] cx0_t cx0_c
attribute [local go_sem] decNode_enc oneFrame_enc
/-- a struct of one list of nodes -/
def stkA (args : List SV) (i : Nat) : List Node := match args[i]? with
  | some (.agg [.sl _ rows]) => decNode rows
  | _ => []
theorem stNode_frOk {N : List Node} {k : Nat} {x : Node} (h : frOk (nodeFr x) = false) : stNode N k x = false := by
  cases hs : stNode N k x with
  | false => rfl
  | true => rw [(stNode_iff.1 hs).2.2.1] at h; cases h
theorem stNode_par {N : List Node} {k : Nat} {x : Node} (h : x.parent < -1 ∨ (k : Int) - 1 < x.parent) : stNode N k x = false := by
  cases hs : stNode N k x with
  | false => rfl
  | true => have := stNode_iff.1 hs; omega
def kFrOk : Ctr := pur (fun args => oneFrame (aC args 0)) (fun f => [.agg (encFrame f)]) (fun f => f.name.size ≤ 1099511627776) (fun _ f => .v (.bool (frOk f))) (fun _ _ => [])
section
noncomputable def cxFrI : Cx := { P := Tryz.prog, tys := tys, C := [(149, kNameOk), (53, k60)], hty := tysOk, hC := COk.cons cNameOkI (COk.cons c60 (COk.nil _)) }
theorem cxFrI_t : cxFrI.tys = tys := rfl
theorem cxFrI_c : cxFrI.C = [(149, kNameOk), (53, k60)] := rfl
attribute [local go_sem] cxFrI_t cxFrI_c kNameOk k60
theorem cFrOkI : Cn Tryz.prog 125 kFrOk := by
  refine Cn.pur Tryz.func125 (by kernel_rfl) rfl fun d x hx => ?_
  refine Holds.go (c := cxFrI) Tryz.func125 rfl Tryz.results125 Tryz.ntmps125 (by omega) (by simp) rfl ?_
  intro X0 w0
  (repeat' (first | refine WP.seq ?_ | refine WP.block ?_ | ((first | refine WP.region ?_ | refine WP.condW ?_ | refine WP.ret ?_ | refine WP.exit ?_ | refine WP.skip ?_); simp only [go_sem, encFrame, tyAll, Nat.reduceAdd, Nat.reduceLT, Nat.reduceLeDiff, Nat.reduceEqDiff, Nat.reduceMul, Nat.reduceSub, Nat.reduceGT, reduceIte, Int.reduceNeg, Int.reduceToNat]) |  refine And.intro ?_ ?_ | intro _))
  all_goals first | omega | skip
  rw [frOk, Bool.and_assoc]
end
section
noncomputable def cxFrS : Cx := { P := Tryz.prog, tys := tys, C := [(116, kNameOk), (47, k60)], hty := tysOk, hC := COk.cons cNameOkS (COk.cons c58 (COk.nil _)) }
theorem cxFrS_t : cxFrS.tys = tys := rfl
theorem cxFrS_c : cxFrS.C = [(116, kNameOk), (47, k60)] := rfl
attribute [local go_sem] cxFrS_t cxFrS_c kNameOk k60
theorem cFrOkS : Cn Tryz.prog 123 kFrOk := by
  refine Cn.pur Tryz.func123 (by kernel_rfl) rfl fun d x hx => ?_
  refine Holds.go (c := cxFrS) Tryz.func123 rfl Tryz.results123 Tryz.ntmps123 (by omega) (by simp) rfl ?_
  intro X0 w0
  (repeat' (first | refine WP.seq ?_ | refine WP.block ?_ | ((first | refine WP.region ?_ | refine WP.condW ?_ | refine WP.ret ?_ | refine WP.exit ?_ | refine WP.skip ?_); simp only [go_sem, encFrame, tyAll, Nat.reduceAdd, Nat.reduceLT, Nat.reduceLeDiff, Nat.reduceEqDiff, Nat.reduceMul, Nat.reduceSub, Nat.reduceGT, reduceIte, Int.reduceNeg, Int.reduceToNat]) |  refine And.intro ?_ ?_ | intro _))
  all_goals first | omega | skip
  rw [frOk, Bool.and_assoc]
end
theorem oneFrame_ab (a : ByteArray) (b : Int) : oneFrame [.v (.string a), .v (.int .i64 b)] = ⟨a, b⟩ := rfl
theorem oneNode_abc (p : Int) (a : ByteArray) (b : Int) : oneNode [.v (.int .i64 p), .v (.string a), .v (.int .i64 b)] = ⟨p, a, b⟩ := rfl
def wfN (N : List Node) : Prop := N.length ≤ 4398046511104 ∧ ∀ x ∈ N, x.name.size ≤ 1099511627776
theorem wfN.nm {N : List Node} (h : wfN N) {k : Nat} (hk : k < N.length) : N[k].name.size ≤ 1099511627776 := h.2 _ (List.getElem_mem hk)
def kStOk : Ctr := pur (fun args => stkA args 0) (fun N => [.agg [.sl 3 (N.map encNode)]]) wfN (fun _ N => .v (.bool (stacksOk N))) (fun _ _ => [])
attribute [local go_sem] stkA oneFrame_ab oneNode_abc
theorem noFr {N : List Node} {k : Nat} (hk : k < N.length) (h : (N[k].parent < -1 ∨ (k : Int) - 1 < N[k].parent) ∨ frOk ⟨N[k].name, N[k].line⟩ = false) : stacksOk N = false := by
  refine stacksOk_bad hk ?_
  rcases h with h | h
  · exact stNode_par h
  · exact stNode_frOk h
theorem node_eq {a b : Node} (h : a.parent = b.parent ∧ a.name = b.name ∧ a.line = b.line) : a = b := by
  obtain ⟨p, n, l⟩ := a
  obtain ⟨p', n', l'⟩ := b
  simp only at h
  obtain ⟨rfl, rfl, rfl⟩ := h
  rfl
theorem node_ne {a b : Node} (h : ¬ a.parent = b.parent ∨ ¬ a.name = b.name ∨ ¬ a.line = b.line) : a ≠ b := fun e => by
  subst e
  rcases h with h | h | h <;> exact h rfl
theorem rowAt_take (rows : List (List SV)) {k i : Nat} (h : i < k) : Go.Vc.rowAt (rows.take k) i = Go.Vc.rowAt rows i := by
  unfold Go.Vc.rowAt
  rw [List.getElem?_take_of_lt h]
section
noncomputable def cxSoS : Cx := { P := Tryz.prog, tys := tys, C := [(123, kFrOk), (47, k60)], hty := tysOk, hC := COk.cons cFrOkS (COk.cons c58 (COk.nil _)) }
theorem cxSoS_t : cxSoS.tys = tys := rfl
theorem cxSoS_c : cxSoS.C = [(123, kFrOk), (47, k60)] := rfl
attribute [local go_sem] cxSoS_t cxSoS_c kFrOk k60
theorem cStOkS : Cn Tryz.prog 90 kStOk := by
  refine Cn.pur Tryz.func90 (by kernel_rfl) rfl fun d x hx => ?_
  rename List Node => N
  have hN := hx.1
  refine Holds.go (c := cxSoS) Tryz.func90 rfl Tryz.results90 Tryz.ntmps90 (by omega) (by simp) rfl ?_
  intro X0 w0
  (repeat' (first | refine WP.seq ?_ | refine WP.block ?_ | ((first | refine WP.region ?_ | refine WP.condW ?_ | refine WP.ret ?_ | refine WP.exit ?_ | refine WP.skip ?_); simp only [go_sem, tyAll, Nat.reduceAdd, Nat.reduceLT, Nat.reduceLeDiff, Nat.reduceEqDiff, Nat.reduceMul, Nat.reduceSub, Nat.reduceGT, reduceIte, Int.reduceNeg, Int.reduceToNat]) | (refine WP.drawW 11 (by decide +kernel) (by kernel_rfl) ?_; simp only [go_sem, tyAll, Nat.reduceAdd, Nat.reduceLT, Nat.reduceLeDiff, Nat.reduceEqDiff, Nat.reduceMul, Nat.reduceSub, Nat.reduceGT, reduceIte, Int.reduceNeg, Int.reduceToNat]) |  refine And.intro ?_ ?_ | intro _))
  refine WP.loop (fun k : Nat => ⟨[(1, .ptr 1 0 0 0), (3, .v (.int .i64 k))], [(1, .box 33 [.sl 3 (N.map encNode)])]⟩) (fun k => k ≤ N.length ∧ ∀ j (hj : j < N.length), j < k → stNode N j N[j] = true) (fun k => N.length - k) 0 (by simp) ?_ ?_
  · (simp only [go_sem, tyAll, Nat.reduceAdd, Nat.reduceLT, Nat.reduceLeDiff, Nat.reduceEqDiff, Nat.reduceMul, Nat.reduceSub, Nat.reduceGT, reduceIte, Int.reduceNeg, Int.reduceToNat] <;> (first | rfl | exact ⟨rfl, rfl⟩ | exact ⟨rfl, rfl, rfl⟩ | exact ⟨rfl, rfl, rfl, rfl⟩ | exact ⟨rfl, rfl, rfl, rfl, rfl⟩ | exact ⟨⟨rfl, rfl⟩, rfl⟩ | simp))
  intro k ⟨hk, hf⟩
  by_cases hlt : k < N.length
  · have h1 := rowAt_map encNode N k hlt
    have hnm := hx.nm hlt
    (repeat' (first | refine WP.seq ?_ | refine WP.block ?_ | ((first | refine WP.region ?_ | refine WP.condW ?_ | refine WP.ret ?_ | refine WP.exit ?_ | refine WP.skip ?_); simp only [go_sem, h1, encNode, encFrame, tyAll, Nat.reduceAdd, Nat.reduceLT, Nat.reduceLeDiff, Nat.reduceEqDiff, Nat.reduceMul, Nat.reduceSub, Nat.reduceGT, reduceIte, Int.reduceNeg, Int.reduceToNat]) | (refine WP.drawW 11 (by decide +kernel) (by kernel_rfl) ?_; simp only [go_sem, h1, encNode, encFrame, tyAll, Nat.reduceAdd, Nat.reduceLT, Nat.reduceLeDiff, Nat.reduceEqDiff, Nat.reduceMul, Nat.reduceSub, Nat.reduceGT, reduceIte, Int.reduceNeg, Int.reduceToNat]) |  refine And.intro ?_ ?_ | intro _))
    all_goals first | omega | skip
    · rename_i h
      rw [noFr hlt h]
    rename_i h
    refine WP.loop (fun i : Nat => ⟨[(1, .ptr 1 0 0 0), (3, .v (.int .i64 k)), (4, .v (.int .i64 i))], [(1, .box 33 [.sl 3 (N.map encNode)])]⟩) (fun i => i ≤ k ∧ ∀ j (hj : j < N.length), j < i → N[j] ≠ N[k]) (fun i => k - i) 0 (by simp) ?_ ?_
    · (simp only [go_sem, tyAll, Nat.reduceAdd, Nat.reduceLT, Nat.reduceLeDiff, Nat.reduceEqDiff, Nat.reduceMul, Nat.reduceSub, Nat.reduceGT, reduceIte, Int.reduceNeg, Int.reduceToNat] <;> (first | rfl | exact ⟨rfl, rfl⟩ | exact ⟨rfl, rfl, rfl⟩ | exact ⟨rfl, rfl, rfl, rfl⟩ | exact ⟨rfl, rfl, rfl, rfl, rfl⟩ | exact ⟨⟨rfl, rfl⟩, rfl⟩ | simp))
    intro i ⟨hi, hg⟩
    by_cases hlt2 : i < k
    · have h2 := rowAt_map encNode N i (by omega)
      (repeat' (first | refine WP.seq ?_ | refine WP.block ?_ | ((first | refine WP.region ?_ | refine WP.condW ?_ | refine WP.ret ?_ | refine WP.exit ?_ | refine WP.skip ?_); simp only [go_sem, h1, h2, encNode, tyAll, Nat.reduceAdd, Nat.reduceLT, Nat.reduceLeDiff, Nat.reduceEqDiff, Nat.reduceMul, Nat.reduceSub, Nat.reduceGT, reduceIte, Int.reduceNeg, Int.reduceToNat]) | (refine WP.drawW 11 (by decide +kernel) (by kernel_rfl) ?_; simp only [go_sem, h1, h2, encNode, tyAll, Nat.reduceAdd, Nat.reduceLT, Nat.reduceLeDiff, Nat.reduceEqDiff, Nat.reduceMul, Nat.reduceSub, Nat.reduceGT, reduceIte, Int.reduceNeg, Int.reduceToNat]) |  refine And.intro ?_ ?_ | intro _))
      all_goals first | omega | skip
      · rename_i he
        rw [stacksOk_bad hlt (stNode_dup hlt hlt2 (node_eq he))]
      · rename_i he
        refine ⟨i + 1, ⟨by omega, fun j hj hji => ?_⟩, by omega, by (first | rfl | exact ⟨rfl, rfl⟩ | exact ⟨rfl, rfl, rfl⟩ | exact ⟨rfl, rfl, rfl, rfl⟩ | exact ⟨rfl, rfl, rfl, rfl, rfl⟩ | exact ⟨⟨rfl, rfl⟩, rfl⟩ | simp)⟩
        rcases Nat.lt_or_ge j i with hh | hh
        · exact hg j hj hh
        · have : j = i := by omega
          subst this
          exact node_ne he
    · (repeat' (first | refine WP.seq ?_ | refine WP.block ?_ | ((first | refine WP.region ?_ | refine WP.condW ?_ | refine WP.ret ?_ | refine WP.exit ?_ | refine WP.skip ?_); simp only [go_sem, tyAll, Nat.reduceAdd, Nat.reduceLT, Nat.reduceLeDiff, Nat.reduceEqDiff, Nat.reduceMul, Nat.reduceSub, Nat.reduceGT, reduceIte, Int.reduceNeg, Int.reduceToNat]) | (refine WP.drawW 11 (by decide +kernel) (by kernel_rfl) ?_; simp only [go_sem, tyAll, Nat.reduceAdd, Nat.reduceLT, Nat.reduceLeDiff, Nat.reduceEqDiff, Nat.reduceMul, Nat.reduceSub, Nat.reduceGT, reduceIte, Int.reduceNeg, Int.reduceToNat]) |  refine And.intro ?_ ?_ | intro _))
      all_goals first | omega | skip
      refine ⟨k + 1, ⟨by omega, fun j hj hjk => ?_⟩, by omega, by (first | rfl | exact ⟨rfl, rfl⟩ | exact ⟨rfl, rfl, rfl⟩ | exact ⟨rfl, rfl, rfl, rfl⟩ | exact ⟨rfl, rfl, rfl, rfl, rfl⟩ | exact ⟨⟨rfl, rfl⟩, rfl⟩ | simp)⟩
      rcases Nat.lt_or_ge j k with hh | hh
      · exact hf j hj hh
      · have : j = k := by omega
        subst this
        exact stNode_ok h.1.1 h.1.2 h.2 fun i hi hij => hg i hi (by omega)
  · (repeat' (first | refine WP.seq ?_ | refine WP.block ?_ | ((first | refine WP.region ?_ | refine WP.condW ?_ | refine WP.ret ?_ | refine WP.exit ?_ | refine WP.skip ?_); simp only [go_sem, tyAll, Nat.reduceAdd, Nat.reduceLT, Nat.reduceLeDiff, Nat.reduceEqDiff, Nat.reduceMul, Nat.reduceSub, Nat.reduceGT, reduceIte, Int.reduceNeg, Int.reduceToNat]) | (refine WP.drawW 11 (by decide +kernel) (by kernel_rfl) ?_; simp only [go_sem, tyAll, Nat.reduceAdd, Nat.reduceLT, Nat.reduceLeDiff, Nat.reduceEqDiff, Nat.reduceMul, Nat.reduceSub, Nat.reduceGT, reduceIte, Int.reduceNeg, Int.reduceToNat]) |  refine And.intro ?_ ?_ | intro _))
    all_goals first | omega | skip
    rw [stacksOk_all fun j hj => hf j hj (by omega)]
end
section
noncomputable def cxSoI : Cx := { P := Tryz.prog, tys := tys, C := [(125, kFrOk), (53, k60)], hty := tysOk, hC := COk.cons cFrOkI (COk.cons c60 (COk.nil _)) }
theorem cxSoI_t : cxSoI.tys = tys := rfl
theorem cxSoI_c : cxSoI.C = [(125, kFrOk), (53, k60)] := rfl
attribute [local go_sem] cxSoI_t cxSoI_c kFrOk k60
theorem cStOkI : Cn Tryz.prog 95 kStOk := by
  refine Cn.pur Tryz.func95 (by kernel_rfl) rfl fun d x hx => ?_
  rename List Node => N
  have hN := hx.1
  refine Holds.go (c := cxSoI) Tryz.func95 rfl Tryz.results95 Tryz.ntmps95 (by omega) (by simp) rfl ?_
  intro X0 w0
  (repeat' (first | refine WP.seq ?_ | refine WP.block ?_ | ((first | refine WP.region ?_ | refine WP.condW ?_ | refine WP.ret ?_ | refine WP.exit ?_ | refine WP.skip ?_); simp only [go_sem, tyAll, Nat.reduceAdd, Nat.reduceLT, Nat.reduceLeDiff, Nat.reduceEqDiff, Nat.reduceMul, Nat.reduceSub, Nat.reduceGT, reduceIte, Int.reduceNeg, Int.reduceToNat]) |  refine And.intro ?_ ?_ | intro _))
  all_goals first | omega | skip
  refine WP.loop (fun k : Nat => ⟨[(1, .ptr 1 0 0 0), (8, .sl 3 (N.map encNode)), (9, .v (.int .i64 N.length)), (10, .v (.int .i64 k))], [(1, .box 33 [.sl 3 (N.map encNode)])]⟩) (fun k => k ≤ N.length ∧ ∀ j (hj : j < N.length), j < k → stNode N j N[j] = true) (fun k => N.length - k) 0 (by simp) ?_ ?_
  · (simp only [go_sem, tyAll, Nat.reduceAdd, Nat.reduceLT, Nat.reduceLeDiff, Nat.reduceEqDiff, Nat.reduceMul, Nat.reduceSub, Nat.reduceGT, reduceIte, Int.reduceNeg, Int.reduceToNat] <;> (first | rfl | exact ⟨rfl, rfl⟩ | exact ⟨rfl, rfl, rfl⟩ | exact ⟨rfl, rfl, rfl, rfl⟩ | exact ⟨rfl, rfl, rfl, rfl, rfl⟩ | exact ⟨⟨rfl, rfl⟩, rfl⟩ | simp))
  intro k ⟨hk, hf⟩
  by_cases hlt : k < N.length
  · have h1 := rowAt_map encNode N k hlt
    have hnm := hx.nm hlt
    (repeat' (first | refine WP.seq ?_ | refine WP.block ?_ | ((first | refine WP.region ?_ | refine WP.condW ?_ | refine WP.ret ?_ | refine WP.exit ?_ | refine WP.skip ?_); simp only [go_sem, h1, encNode, encFrame, tyAll, Nat.reduceAdd, Nat.reduceLT, Nat.reduceLeDiff, Nat.reduceEqDiff, Nat.reduceMul, Nat.reduceSub, Nat.reduceGT, reduceIte, Int.reduceNeg, Int.reduceToNat]) |  refine And.intro ?_ ?_ | intro _))
    all_goals first | omega | skip
    · rename_i h
      rw [noFr hlt h]
    rename_i h
    have hl : ((N.map encNode).take k).length = k := by rw [List.length_take, List.length_map]; omega
    refine WP.loop (fun i : Nat => ⟨[(1, .ptr 1 0 0 0), (4, .ptr 4 0 0 0), (8, .sl 3 (N.map encNode)), (9, .v (.int .i64 N.length)), (10, .v (.int .i64 k)), (30, .sl 3 ((N.map encNode).take k)), (31, .v (.int .i64 k)), (32, .v (.int .i64 i))], [(1, .box 33 [.sl 3 (N.map encNode)]), (4, .box 130 (encNode N[k]))]⟩) (fun i => i ≤ k ∧ ∀ j (hj : j < N.length), j < i → N[j] ≠ N[k]) (fun i => k - i) 0 (by simp) ?_ ?_
    · (simp only [go_sem, hl, encNode, tyAll, Nat.reduceAdd, Nat.reduceLT, Nat.reduceLeDiff, Nat.reduceEqDiff, Nat.reduceMul, Nat.reduceSub, Nat.reduceGT, reduceIte, Int.reduceNeg, Int.reduceToNat] <;> (first | rfl | exact ⟨rfl, rfl⟩ | exact ⟨rfl, rfl, rfl⟩ | exact ⟨rfl, rfl, rfl, rfl⟩ | exact ⟨rfl, rfl, rfl, rfl, rfl⟩ | exact ⟨⟨rfl, rfl⟩, rfl⟩ | simp))
    intro i ⟨hi, hg⟩
    by_cases hlt2 : i < k
    · have h2 := rowAt_map encNode N i (by omega)
      have h3 := rowAt_take (N.map encNode) hlt2
      rw [h2] at h3
      (repeat' (first | refine WP.seq ?_ | refine WP.block ?_ | ((first | refine WP.region ?_ | refine WP.condW ?_ | refine WP.ret ?_ | refine WP.exit ?_ | refine WP.skip ?_); simp only [go_sem, h1, h3, hl, encNode, tyAll, Nat.reduceAdd, Nat.reduceLT, Nat.reduceLeDiff, Nat.reduceEqDiff, Nat.reduceMul, Nat.reduceSub, Nat.reduceGT, reduceIte, Int.reduceNeg, Int.reduceToNat]) |  refine And.intro ?_ ?_ | intro _))
      all_goals first | omega | skip
      · rename_i he
        rw [stacksOk_bad hlt (stNode_dup hlt hlt2 (node_eq ⟨he.1.symm, he.2.1.symm, he.2.2.symm⟩))]
      · rename_i he
        refine ⟨i + 1, ⟨by omega, fun j hj hji => ?_⟩, by omega, by (first | rfl | exact ⟨rfl, rfl⟩ | exact ⟨rfl, rfl, rfl⟩ | exact ⟨rfl, rfl, rfl, rfl⟩ | exact ⟨rfl, rfl, rfl, rfl, rfl⟩ | exact ⟨⟨rfl, rfl⟩, rfl⟩ | simp)⟩
        rcases Nat.lt_or_ge j i with hh | hh
        · exact hg j hj hh
        · have : j = i := by omega
          subst this
          exact Ne.symm (node_ne he)
    · (repeat' (first | refine WP.seq ?_ | refine WP.block ?_ | ((first | refine WP.region ?_ | refine WP.condW ?_ | refine WP.ret ?_ | refine WP.exit ?_ | refine WP.skip ?_); simp only [go_sem, tyAll, Nat.reduceAdd, Nat.reduceLT, Nat.reduceLeDiff, Nat.reduceEqDiff, Nat.reduceMul, Nat.reduceSub, Nat.reduceGT, reduceIte, Int.reduceNeg, Int.reduceToNat]) |  refine And.intro ?_ ?_ | intro _))
      all_goals first | omega | skip
      refine ⟨k + 1, ⟨by omega, fun j hj hjk => ?_⟩, by omega, by (first | rfl | exact ⟨rfl, rfl⟩ | exact ⟨rfl, rfl, rfl⟩ | exact ⟨rfl, rfl, rfl, rfl⟩ | exact ⟨rfl, rfl, rfl, rfl, rfl⟩ | exact ⟨⟨rfl, rfl⟩, rfl⟩ | simp)⟩
      rcases Nat.lt_or_ge j k with hh | hh
      · exact hf j hj hh
      · have : j = k := by omega
        subst this
        exact stNode_ok h.1.1 h.1.2 h.2 fun i hi hij => hg i hi (by omega)
  · (repeat' (first | refine WP.seq ?_ | refine WP.block ?_ | ((first | refine WP.region ?_ | refine WP.condW ?_ | refine WP.ret ?_ | refine WP.exit ?_ | refine WP.skip ?_); simp only [go_sem, tyAll, Nat.reduceAdd, Nat.reduceLT, Nat.reduceLeDiff, Nat.reduceEqDiff, Nat.reduceMul, Nat.reduceSub, Nat.reduceGT, reduceIte, Int.reduceNeg, Int.reduceToNat]) |  refine And.intro ?_ ?_ | intro _))
    all_goals first | omega | skip
    rw [stacksOk_all fun j hj => hf j hj (by omega)]
end
def kChild : Ctr := pur (fun args => (stkA args 0, aI args 1, oneFrame (aC args 2))) (fun x => [.agg [.sl 3 (x.1.map encNode)], .v (.int .i64 x.2.1), .agg (encFrame x.2.2)]) (fun x => x.1.length ≤ 4398046511104) (fun _ x => .v (.int .i64 (child x.1 x.2.1 x.2.2))) (fun _ _ => [])
theorem hit_yes {N : List Node} {p : Int} {f : Frame} {k : Nat} (hk : k < N.length) (hf : ∀ j (hj : j < N.length), j < k → hitNode p f N[j] = false) (h : N[k].parent = p ∧ N[k].name = f.name ∧ N[k].line = f.line) : child N p f = k :=
  firstIdx_hit hk hf (by
    obtain ⟨a, b⟩ := f
    simp only at h
    simp [hitNode, nodeFr, h])
theorem hit_no {p : Int} {f : Frame} {x : Node} (h : ¬ x.parent = p ∨ ¬ x.name = f.name ∨ ¬ x.line = f.line) : hitNode p f x = false := by
  obtain ⟨a, b⟩ := f
  simp only at h
  simp only [hitNode, nodeFr, Bool.and_eq_false_iff, decide_eq_false_iff_not, Frame.mk.injEq, not_and]
  rcases h with h | h | h
  · exact .inl h
  · exact .inr fun e => absurd e h
  · exact .inr fun _ => h
theorem cChildS : Cn Tryz.prog 173 kChild := by
  refine Cn.pur Tryz.func173 (by kernel_rfl) rfl fun d x hx => ?_
  obtain ⟨N, p, f⟩ := x
  simp only at hx ⊢
  refine Holds.go (c := cx0) Tryz.func173 rfl Tryz.results173 Tryz.ntmps173 (by omega) (by simp) rfl ?_
  intro X0 w0
  (repeat' (first | refine WP.seq ?_ | refine WP.block ?_ | ((first | refine WP.region ?_ | refine WP.condW ?_ | refine WP.ret ?_ | refine WP.exit ?_ | refine WP.skip ?_); simp only [go_sem, encFrame, tyAll, Nat.reduceAdd, Nat.reduceLT, Nat.reduceLeDiff, Nat.reduceEqDiff, Nat.reduceMul, Nat.reduceSub, Nat.reduceGT, reduceIte, Int.reduceNeg, Int.reduceToNat]) | (refine WP.drawW 18 (by decide +kernel) (by kernel_rfl) ?_; simp only [go_sem, encFrame, tyAll, Nat.reduceAdd, Nat.reduceLT, Nat.reduceLeDiff, Nat.reduceEqDiff, Nat.reduceMul, Nat.reduceSub, Nat.reduceGT, reduceIte, Int.reduceNeg, Int.reduceToNat]) |  refine And.intro ?_ ?_ | intro _))
  all_goals first | omega | skip
  refine WP.loop (fun k : Nat => ⟨[(1, .v (.int .i64 p)), (3, .ptr 3 0 0 0), (5, .ptr 5 0 0 0), (7, .v (.int .i64 k))], [(3, .box 33 [.sl 3 (N.map encNode)]), (5, .box 68 (encFrame f))]⟩) (fun k => k ≤ N.length ∧ ∀ j (hj : j < N.length), j < k → hitNode p f N[j] = false) (fun k => N.length - k) 0 (by simp) ?_ ?_
  · (simp only [go_sem, encFrame, tyAll, Nat.reduceAdd, Nat.reduceLT, Nat.reduceLeDiff, Nat.reduceEqDiff, Nat.reduceMul, Nat.reduceSub, Nat.reduceGT, reduceIte, Int.reduceNeg, Int.reduceToNat] <;> (first | rfl | exact ⟨rfl, rfl⟩ | exact ⟨rfl, rfl, rfl⟩ | exact ⟨rfl, rfl, rfl, rfl⟩ | exact ⟨rfl, rfl, rfl, rfl, rfl⟩ | exact ⟨⟨rfl, rfl⟩, rfl⟩ | simp))
  intro k ⟨hk, hf⟩
  by_cases hlt : k < N.length
  · have h1 := rowAt_map encNode N k hlt
    (repeat' (first | refine WP.seq ?_ | refine WP.block ?_ | ((first | refine WP.region ?_ | refine WP.condW ?_ | refine WP.ret ?_ | refine WP.exit ?_ | refine WP.skip ?_); simp only [go_sem, h1, encNode, encFrame, tyAll, Nat.reduceAdd, Nat.reduceLT, Nat.reduceLeDiff, Nat.reduceEqDiff, Nat.reduceMul, Nat.reduceSub, Nat.reduceGT, reduceIte, Int.reduceNeg, Int.reduceToNat]) | (refine WP.drawW 18 (by decide +kernel) (by kernel_rfl) ?_; simp only [go_sem, h1, encNode, encFrame, tyAll, Nat.reduceAdd, Nat.reduceLT, Nat.reduceLeDiff, Nat.reduceEqDiff, Nat.reduceMul, Nat.reduceSub, Nat.reduceGT, reduceIte, Int.reduceNeg, Int.reduceToNat]) |  refine And.intro ?_ ?_ | intro _))
    all_goals first | omega | skip
    · rename_i he
      rw [hit_yes hlt hf he]
    · rename_i he
      refine ⟨k + 1, ⟨by omega, fun j hj hji => ?_⟩, by omega, by (first | rfl | exact ⟨rfl, rfl⟩ | exact ⟨rfl, rfl, rfl⟩ | exact ⟨rfl, rfl, rfl, rfl⟩ | exact ⟨rfl, rfl, rfl, rfl, rfl⟩ | exact ⟨⟨rfl, rfl⟩, rfl⟩ | simp)⟩
      rcases Nat.lt_or_ge j k with hh | hh
      · exact hf j hj hh
      · have : j = k := by omega
        subst this
        exact hit_no he
  · (repeat' (first | refine WP.seq ?_ | refine WP.block ?_ | ((first | refine WP.region ?_ | refine WP.condW ?_ | refine WP.ret ?_ | refine WP.exit ?_ | refine WP.skip ?_); simp only [go_sem, tyAll, Nat.reduceAdd, Nat.reduceLT, Nat.reduceLeDiff, Nat.reduceEqDiff, Nat.reduceMul, Nat.reduceSub, Nat.reduceGT, reduceIte, Int.reduceNeg, Int.reduceToNat]) | (refine WP.drawW 18 (by decide +kernel) (by kernel_rfl) ?_; simp only [go_sem, tyAll, Nat.reduceAdd, Nat.reduceLT, Nat.reduceLeDiff, Nat.reduceEqDiff, Nat.reduceMul, Nat.reduceSub, Nat.reduceGT, reduceIte, Int.reduceNeg, Int.reduceToNat]) |  refine And.intro ?_ ?_ | intro _))
    all_goals first | omega | skip
    rw [show child N p f = -1 from firstIdx_none fun i hi => hf i hi (by omega)]
theorem cChildI : Cn Tryz.prog 191 kChild := by
  refine Cn.pur Tryz.func191 (by kernel_rfl) rfl fun d x hx => ?_
  obtain ⟨N, p, f⟩ := x
  simp only at hx ⊢
  refine Holds.go (c := cx0) Tryz.func191 rfl Tryz.results191 Tryz.ntmps191 (by omega) (by simp) rfl ?_
  intro X0 w0
  (repeat' (first | refine WP.seq ?_ | refine WP.block ?_ | ((first | refine WP.region ?_ | refine WP.condW ?_ | refine WP.ret ?_ | refine WP.exit ?_ | refine WP.skip ?_); simp only [go_sem, encFrame, tyAll, Nat.reduceAdd, Nat.reduceLT, Nat.reduceLeDiff, Nat.reduceEqDiff, Nat.reduceMul, Nat.reduceSub, Nat.reduceGT, reduceIte, Int.reduceNeg, Int.reduceToNat]) |  refine And.intro ?_ ?_ | intro _))
  all_goals first | omega | skip
  refine WP.loop (fun k : Nat => ⟨[(1, .v (.int .i64 p)), (5, .ptr 5 0 0 0), (10, .sl 3 (N.map encNode)), (11, .v (.int .i64 N.length)), (12, .v (.int .i64 k))], [(5, .box 68 (encFrame f))]⟩) (fun k => k ≤ N.length ∧ ∀ j (hj : j < N.length), j < k → hitNode p f N[j] = false) (fun k => N.length - k) 0 (by simp) ?_ ?_
  · (simp only [go_sem, encFrame, tyAll, Nat.reduceAdd, Nat.reduceLT, Nat.reduceLeDiff, Nat.reduceEqDiff, Nat.reduceMul, Nat.reduceSub, Nat.reduceGT, reduceIte, Int.reduceNeg, Int.reduceToNat] <;> (first | rfl | exact ⟨rfl, rfl⟩ | exact ⟨rfl, rfl, rfl⟩ | exact ⟨rfl, rfl, rfl, rfl⟩ | exact ⟨rfl, rfl, rfl, rfl, rfl⟩ | exact ⟨⟨rfl, rfl⟩, rfl⟩ | simp))
  intro k ⟨hk, hf⟩
  by_cases hlt : k < N.length
  · have h1 := rowAt_map encNode N k hlt
    (repeat' (first | refine WP.seq ?_ | refine WP.block ?_ | ((first | refine WP.region ?_ | refine WP.condW ?_ | refine WP.ret ?_ | refine WP.exit ?_ | refine WP.skip ?_); simp only [go_sem, h1, encNode, encFrame, tyAll, Nat.reduceAdd, Nat.reduceLT, Nat.reduceLeDiff, Nat.reduceEqDiff, Nat.reduceMul, Nat.reduceSub, Nat.reduceGT, reduceIte, Int.reduceNeg, Int.reduceToNat]) |  refine And.intro ?_ ?_ | intro _))
    all_goals first | omega | skip
    · rename_i he
      rw [hit_yes hlt hf he]
    · rename_i he
      refine ⟨k + 1, ⟨by omega, fun j hj hji => ?_⟩, by omega, by (first | rfl | exact ⟨rfl, rfl⟩ | exact ⟨rfl, rfl, rfl⟩ | exact ⟨rfl, rfl, rfl, rfl⟩ | exact ⟨rfl, rfl, rfl, rfl, rfl⟩ | exact ⟨⟨rfl, rfl⟩, rfl⟩ | simp)⟩
      rcases Nat.lt_or_ge j k with hh | hh
      · exact hf j hj hh
      · have : j = k := by omega
        subst this
        exact hit_no he
  · (repeat' (first | refine WP.seq ?_ | refine WP.block ?_ | ((first | refine WP.region ?_ | refine WP.condW ?_ | refine WP.ret ?_ | refine WP.exit ?_ | refine WP.skip ?_); simp only [go_sem, tyAll, Nat.reduceAdd, Nat.reduceLT, Nat.reduceLeDiff, Nat.reduceEqDiff, Nat.reduceMul, Nat.reduceSub, Nat.reduceGT, reduceIte, Int.reduceNeg, Int.reduceToNat]) |  refine And.intro ?_ ?_ | intro _))
    all_goals first | omega | skip
    rw [show child N p f = -1 from firstIdx_none fun i hi => hf i hi (by omega)]
theorem rlNode {N : List Node} {row : List SV} (h : row ∈ N.map encNode) : row.length = 3 := by
  obtain ⟨x, _, rfl⟩ := List.mem_map.1 h; rfl
theorem rlFrame {N : List Frame} {row : List SV} (h : row ∈ N.map encFrame) : row.length = 2 := by
  obtain ⟨x, _, rfl⟩ := List.mem_map.1 h; rfl
theorem rlI {N : List Int} {row : List SV} (h : row ∈ N.map encI) : row.length = 1 := by
  obtain ⟨x, _, rfl⟩ := List.mem_map.1 h; rfl
theorem rlEntry {N : List Entry} {row : List SV} (h : row ∈ N.map encEntry) : row.length = 2 := by
  obtain ⟨x, _, rfl⟩ := List.mem_map.1 h; rfl
def kCopyStk : Ctr := pur (fun args => stkA args 0) (fun N => [.agg [.sl 3 (N.map encNode)]]) (fun N => N.length ≤ 4398046511104) (fun d _ => .agg [.own d]) (fun d N => [(d, .sl 130 3 (N.map encNode))])
theorem cCopyStkS : Cn Tryz.prog 172 kCopyStk := by
  refine Cn.pur Tryz.func172 (by kernel_rfl) rfl fun d x hx => ?_
  rename List Node => N
  refine Holds.go (c := cx0) Tryz.func172 rfl Tryz.results172 Tryz.ntmps172 (by omega) (by simp) rfl ?_
  intro X0 w0
  (repeat' (first | refine WP.seq ?_ | refine WP.block ?_ | ((first | refine WP.region ?_ | refine WP.condW ?_ | refine WP.ret ?_ | refine WP.exit ?_ | refine WP.skip ?_); simp only [go_sem, tyAll, Nat.reduceAdd, Nat.reduceLT, Nat.reduceLeDiff, Nat.reduceEqDiff, Nat.reduceMul, Nat.reduceSub, Nat.reduceGT, reduceIte, Int.reduceNeg, Int.reduceToNat]) |  refine And.intro ?_ ?_ | intro _))
  all_goals first | omega | exact rlNode ‹_› | exact ⟨_, _, rfl, _, _, rfl, rfl⟩ | skip
theorem cCopyStkI : Cn Tryz.prog 190 kCopyStk := by
  refine Cn.pur Tryz.func190 (by kernel_rfl) rfl fun d x hx => ?_
  rename List Node => N
  refine Holds.go (c := cx0) Tryz.func190 rfl Tryz.results190 Tryz.ntmps190 (by omega) (by simp) rfl ?_
  intro X0 w0
  (repeat' (first | refine WP.seq ?_ | refine WP.block ?_ | ((first | refine WP.region ?_ | refine WP.condW ?_ | refine WP.ret ?_ | refine WP.exit ?_ | refine WP.skip ?_); simp only [go_sem, tyAll, Nat.reduceAdd, Nat.reduceLT, Nat.reduceLeDiff, Nat.reduceEqDiff, Nat.reduceMul, Nat.reduceSub, Nat.reduceGT, reduceIte, Int.reduceNeg, Int.reduceToNat]) |  refine And.intro ?_ ?_ | intro _))
  all_goals first | omega | exact rlNode ‹_› | exact ⟨_, _, rfl, _, _, rfl, rfl⟩ | skip
end Go.Proofs.YtolnapfgfdgifaaGreatDoor

/-
  DERIVED. ProfileOk, copies, TotalOf, of the reference and of the program.
-/
namespace Go.Proofs.YtolnapfgfdgifaaGreatDoor
open Go.Vc
set_option linter.unusedSimpArgs false
set_option linter.unusedVariables false
set_option maxHeartbeats 1000000
set_option maxRecDepth 10000
attribute [local go_sem] St.runR St.runW St.stepV offV St.step St.stepU St.stepG mkCond guardB St.prK St.pr St.prLen St.eff St.callE St.callD St.callF St.callL aI aB aS aR aC St.isM St.argL Ctr.pure Ctr.lend Ctr.move Ctr.isL Ctr.wri pur len lentBy St.lentV St.lent1 nthS argsR restOf obsR pairs swapL unObs backL St.resL erL SV.ren1 SV.up SV.up2 Ob.up St.fzL cellIds partIds St.intoRow SV.ownId St.fz SV.fz1 St.prep St.mvL St.mv SV.re1 rnOk St.prEq vals eqCells scEq Value.kd St.prStr St.prCut cutR St.bnd St.prMin St.bld isShift outL retL outJ oR oC St.ev St.get St.put St.new St.kill SV.kill SV.kill1 Ob.kill St.app St.wrt St.rowsOf St.res St.killL lk er argsL SV.strip SV.need SV.share SV.share1 SV.owns SV.owns1 SV.owns2 SV.good SV.good1 SV.rok SV.rok1 SV.rok2 SV.isV SV.isV2 nodupN SV.cells SV.one SV.pur partsIn rowsIn splice cellsAt dstOk scal2 scal1 thenK blockK retK outK outs okC okL okA okT nilC nilL nilA nilT keepC keepL keepA keepT St.runG St.dltK St.least St.clean St.final St.hide offK badS badO SV.refs SV.leaf SV.leaf2 Ob.refs dlOk fpAt Go.Vc.cover tups SV.ofAgg St.out outC subL St.has rng wr Value.oneCell' Option.isSome_some Option.isSome_none List.nil_append Bool.false_eq_true List.map_cons List.map_nil List.all_cons List.all_nil List.length_cons List.length_nil List.drop_zero List.drop_succ_cons List.take_succ_cons List.take_zero List.drop_nil List.take_nil List.getElem?_cons_zero List.getElem?_cons_succ List.getElem?_nil List.cons_append List.nil_append List.append_nil List.append_assoc List.flatMap_cons List.flatMap_nil List.contains_cons List.contains_nil List.set_cons_zero List.set_cons_succ List.getElem?_toArray Option.getD_some Option.getD_none Option.map_some Option.map_none Option.bind_some Option.some.injEq Prod.mk.injEq if_true if_false true_and and_true and_self and_false false_and Bool.and_false Bool.false_and Bool.or_true Bool.true_or Bool.or_false Bool.false_or ne_eq not_true_eq_false not_false_eq_true decide_true decide_false List.mem_cons List.not_mem_nil List.filter_cons List.filter_nil List.any_cons List.any_nil List.isEmpty_nil List.isEmpty_cons Option.getD_none or_false false_or true_or or_true forall_eq_or_imp forall_eq reduceCtorEq exists_eq exists_eq' exists_eq_left' exists_eq_left exists_eq_right exists_eq_right' imp_self implies_true Bool.and_true Bool.true_and Bool.and_self beq_self_eq_true List.replicate_succ List.replicate_zero forall_const false_implies pickB_or pickB_and beqT beqF Int.toNat_natCast List.length_map List.length_replicate ge_iff_le gt_iff_lt decide_eq_true_eq decide_eq_false_iff_not Bool.and_eq_true Bool.or_eq_true Bool.not_eq_true' Bool.not_eq_false' condG List.toList_toArray Bool.or_eq_false_iff Bool.and_eq_false_iff Int.not_lt Int.not_le beq_iff_eq beq_eq_false_iff_ne bne_iff_ne bne_eq_false_iff_eq ne_eq Bool.not_true Bool.not_false exists_and_left
attribute [local irreducible] Go.Vc.WP
attribute [local go_sem] cx0_t cx0_c
attribute [local go_sem] decNode_enc decFrame_enc oneFrame_enc stkA oneFrame_ab oneNode_abc decI_enc
/-- a profile: its nodes and its counts -/
def prA (args : List SV) (i : Nat) : List Node × List Int := match args[i]? with
  | some (.agg [.sl _ r, .sl _ q]) => (decNode r, decI q)
  | _ => ([], [])
attribute [local go_sem] prA
def encPr (x : List Node × List Int) : SV := .agg [.sl 3 (x.1.map encNode), .sl 1 (x.2.map encI)]
def wfP (x : List Node × List Int) : Prop := (x.1.length ≤ 4398046511104 ∧ ∀ n ∈ x.1, n.name.size ≤ 1099511627776) ∧ x.2.length ≤ 4398046511104
theorem cntOk_bad {C : List Int} {k : Nat} (hk : k < C.length) (h : C[k] < 0 ∨ 1000000000000 - (C.take k).sum < C[k]) : cntOk C = false := by
  cases hs : cntOk C with
  | false => rfl
  | true => have := cntOk_at hs k hk; omega
theorem profNo {N : List Node} {C : List Int} (h : stacksOk N = false ∨ ¬ (C.length : Int) = N.length ∨ cntOk C = false) : profileOk N C = false := by
  cases hs : profileOk N C with
  | false => rfl
  | true =>
    obtain ⟨h1, h2, h3⟩ := profileOk_iff.1 hs
    rcases h with h | h | h
    · rw [h1] at h; cases h
    · omega
    · rw [h3] at h; cases h
theorem cntOk_all {C : List Int} (h : ∀ j (hj : j < C.length), 0 ≤ C[j] ∧ C[j] ≤ 1000000000000 - (C.take j).sum) : cntOk C = true := by
  unfold cntOk
  exact decide_eq_true h
def kPrOk : Ctr := pur (fun args => prA args 0) (fun x => [.agg [.sl 3 (x.1.map encNode), .sl 1 (x.2.map encI)]]) wfP (fun _ x => .v (.bool (profileOk x.1 x.2))) (fun _ _ => [])
section
noncomputable def cxPoS : Cx := { P := Tryz.prog, tys := tys, C := [(90, kStOk), (47, k60)], hty := tysOk, hC := COk.cons cStOkS (COk.cons c58 (COk.nil _)) }
theorem cxPoS_t : cxPoS.tys = tys := rfl
theorem cxPoS_c : cxPoS.C = [(90, kStOk), (47, k60)] := rfl
attribute [local go_sem] cxPoS_t cxPoS_c kStOk k60
theorem cPrOkS : Cn Tryz.prog 46 kPrOk := by
  refine Cn.pur Tryz.func46 (by kernel_rfl) rfl fun d x hx => ?_
  obtain ⟨N, C⟩ := x
  obtain ⟨⟨hN, hs⟩, hC⟩ := hx
  simp only at hN hs hC ⊢
  refine Holds.go (c := cxPoS) Tryz.func46 rfl Tryz.results46 Tryz.ntmps46 (by omega) (by simp) rfl ?_
  intro X0 w0
  (repeat' (first | refine WP.seq ?_ | refine WP.block ?_ | ((first | refine WP.region ?_ | refine WP.condW ?_ | refine WP.ret ?_ | refine WP.exit ?_ | refine WP.skip ?_); simp only [go_sem, tyAll, Nat.reduceAdd, Nat.reduceLT, Nat.reduceLeDiff, Nat.reduceEqDiff, Nat.reduceMul, Nat.reduceSub, Nat.reduceGT, reduceIte, Int.reduceNeg, Int.reduceToNat]) |  refine And.intro ?_ ?_ | intro _))
  all_goals first | omega | exact hs _ ‹_› | skip
  · rename_i h; rw [profNo (h.imp_right .inl)]
  rename_i h
  refine WP.loop (fun k : Nat => ⟨[(1, .ptr 1 0 0 0), (3, .v (.int .i64 (C.take k).sum)), (4, .v (.int .i64 k))], [(1, .box 35 [.sl 3 (N.map encNode), .sl 1 (C.map encI)])]⟩)
    (fun k => k ≤ C.length ∧ ∀ j (hj : j < C.length), j < k → 0 ≤ C[j] ∧ C[j] ≤ 1000000000000 - (C.take j).sum) (fun k => C.length - k) 0 (by simp) ?_ ?_
  · (simp only [go_sem, tyAll, Nat.reduceAdd, Nat.reduceLT, Nat.reduceLeDiff, Nat.reduceEqDiff, Nat.reduceMul, Nat.reduceSub, Nat.reduceGT, reduceIte, Int.reduceNeg, Int.reduceToNat] <;> (first | rfl | exact ⟨rfl, rfl⟩ | exact ⟨rfl, rfl, rfl⟩ | exact ⟨rfl, rfl, rfl, rfl⟩ | exact ⟨rfl, rfl, rfl, rfl, rfl⟩ | exact ⟨⟨rfl, rfl⟩, rfl⟩ | simp))
  intro k ⟨hk, hf⟩
  have hsum : 0 ≤ (C.take k).sum ∧ (C.take k).sum ≤ 1000000000000 := by
    have := cntOk_sum (C := C.take k) (fun j hj => by
      rw [List.length_take] at hj
      have := hf j (by omega) (by omega)
      rw [List.getElem_take, List.take_take, Nat.min_eq_left (by omega)]
      exact this) k (by rw [List.length_take]; omega)
    rwa [List.take_take, Nat.min_self] at this
  by_cases hlt : k < C.length
  · have h1 := rowAt_map encI C k hlt
    have h2 := take_sum C k hlt
    (repeat' (first | refine WP.seq ?_ | refine WP.block ?_ | ((first | refine WP.region ?_ | refine WP.condW ?_ | refine WP.ret ?_ | refine WP.exit ?_ | refine WP.skip ?_); simp only [go_sem, h1, encI, tyAll, Nat.reduceAdd, Nat.reduceLT, Nat.reduceLeDiff, Nat.reduceEqDiff, Nat.reduceMul, Nat.reduceSub, Nat.reduceGT, reduceIte, Int.reduceNeg, Int.reduceToNat]) |  refine And.intro ?_ ?_ | intro _))
    all_goals first | omega | skip
    · rename_i hb; rw [profNo (.inr (.inr (cntOk_bad hlt (by omega))))]
    · rename_i hb
      refine ⟨k + 1, ⟨by omega, fun j hj hjk => ?_⟩, by omega, by rw [h2]; (first | rfl | exact ⟨rfl, rfl⟩ | exact ⟨rfl, rfl, rfl⟩ | exact ⟨rfl, rfl, rfl, rfl⟩ | exact ⟨rfl, rfl, rfl, rfl, rfl⟩ | exact ⟨⟨rfl, rfl⟩, rfl⟩ | simp)⟩
      rcases Nat.lt_or_ge j k with hh | hh
      · exact hf j hj hh
      · have : j = k := by omega
        subst this; omega
  · (repeat' (first | refine WP.seq ?_ | refine WP.block ?_ | ((first | refine WP.region ?_ | refine WP.condW ?_ | refine WP.ret ?_ | refine WP.exit ?_ | refine WP.skip ?_); simp only [go_sem, tyAll, Nat.reduceAdd, Nat.reduceLT, Nat.reduceLeDiff, Nat.reduceEqDiff, Nat.reduceMul, Nat.reduceSub, Nat.reduceGT, reduceIte, Int.reduceNeg, Int.reduceToNat]) |  refine And.intro ?_ ?_ | intro _))
    all_goals first | omega | skip
    rw [profileOk_iff.2 ⟨h.1, by omega, cntOk_all fun j hj => hf j hj (by omega)⟩]
end
section
noncomputable def cxPoI : Cx := { P := Tryz.prog, tys := tys, C := [(95, kStOk), (53, k60)], hty := tysOk, hC := COk.cons cStOkI (COk.cons c60 (COk.nil _)) }
theorem cxPoI_t : cxPoI.tys = tys := rfl
theorem cxPoI_c : cxPoI.C = [(95, kStOk), (53, k60)] := rfl
attribute [local go_sem] cxPoI_t cxPoI_c kStOk k60
theorem cPrOkI : Cn Tryz.prog 52 kPrOk := by
  refine Cn.pur Tryz.func52 (by kernel_rfl) rfl fun d x hx => ?_
  obtain ⟨N, C⟩ := x
  obtain ⟨⟨hN, hs⟩, hC⟩ := hx
  simp only at hN hs hC ⊢
  refine Holds.go (c := cxPoI) Tryz.func52 rfl Tryz.results52 Tryz.ntmps52 (by omega) (by simp) rfl ?_
  intro X0 w0
  (repeat' (first | refine WP.seq ?_ | refine WP.block ?_ | ((first | refine WP.region ?_ | refine WP.condW ?_ | refine WP.ret ?_ | refine WP.exit ?_ | refine WP.skip ?_); simp only [go_sem, tyAll, Nat.reduceAdd, Nat.reduceLT, Nat.reduceLeDiff, Nat.reduceEqDiff, Nat.reduceMul, Nat.reduceSub, Nat.reduceGT, reduceIte, Int.reduceNeg, Int.reduceToNat]) |  refine And.intro ?_ ?_ | intro _))
  all_goals first | omega | exact hs _ ‹_› | skip
  · rename_i h; rw [profNo (h.imp_right .inl)]
  rename_i h
  refine WP.loop (fun k : Nat => ⟨[(3, .v (.int .i64 (1000000000000 - (C.take k).sum))), (21, .sl 1 (C.map encI)), (22, .v (.int .i64 C.length)), (23, .v (.int .i64 k))], []⟩)
    (fun k => k ≤ C.length ∧ ∀ j (hj : j < C.length), j < k → 0 ≤ C[j] ∧ C[j] ≤ 1000000000000 - (C.take j).sum) (fun k => C.length - k) 0 (by simp) ?_ ?_
  · (simp only [go_sem, tyAll, Nat.reduceAdd, Nat.reduceLT, Nat.reduceLeDiff, Nat.reduceEqDiff, Nat.reduceMul, Nat.reduceSub, Nat.reduceGT, reduceIte, Int.reduceNeg, Int.reduceToNat] <;> (first | rfl | exact ⟨rfl, rfl⟩ | exact ⟨rfl, rfl, rfl⟩ | exact ⟨rfl, rfl, rfl, rfl⟩ | exact ⟨rfl, rfl, rfl, rfl, rfl⟩ | exact ⟨⟨rfl, rfl⟩, rfl⟩ | simp))
  intro k ⟨hk, hf⟩
  have hsum : 0 ≤ (C.take k).sum ∧ (C.take k).sum ≤ 1000000000000 := by
    have := cntOk_sum (C := C.take k) (fun j hj => by
      rw [List.length_take] at hj
      have := hf j (by omega) (by omega)
      rw [List.getElem_take, List.take_take, Nat.min_eq_left (by omega)]
      exact this) k (by rw [List.length_take]; omega)
    rwa [List.take_take, Nat.min_self] at this
  by_cases hlt : k < C.length
  · have h1 := rowAt_map encI C k hlt
    have h2 := take_sum C k hlt
    (repeat' (first | refine WP.seq ?_ | refine WP.block ?_ | ((first | refine WP.region ?_ | refine WP.condW ?_ | refine WP.ret ?_ | refine WP.exit ?_ | refine WP.skip ?_); simp only [go_sem, h1, encI, tyAll, Nat.reduceAdd, Nat.reduceLT, Nat.reduceLeDiff, Nat.reduceEqDiff, Nat.reduceMul, Nat.reduceSub, Nat.reduceGT, reduceIte, Int.reduceNeg, Int.reduceToNat]) |  refine And.intro ?_ ?_ | intro _))
    all_goals first | omega | skip
    · rename_i hb; rw [profNo (.inr (.inr (cntOk_bad hlt (by omega))))]
    · rename_i hb
      refine ⟨k + 1, ⟨by omega, fun j hj hjk => ?_⟩, by omega, by rw [h2, ← Int.sub_sub]; (first | rfl | exact ⟨rfl, rfl⟩ | exact ⟨rfl, rfl, rfl⟩ | exact ⟨rfl, rfl, rfl, rfl⟩ | exact ⟨rfl, rfl, rfl, rfl, rfl⟩ | exact ⟨⟨rfl, rfl⟩, rfl⟩ | simp)⟩
      rcases Nat.lt_or_ge j k with hh | hh
      · exact hf j hj hh
      · have : j = k := by omega
        subst this; omega
  · (repeat' (first | refine WP.seq ?_ | refine WP.block ?_ | ((first | refine WP.region ?_ | refine WP.condW ?_ | refine WP.ret ?_ | refine WP.exit ?_ | refine WP.skip ?_); simp only [go_sem, tyAll, Nat.reduceAdd, Nat.reduceLT, Nat.reduceLeDiff, Nat.reduceEqDiff, Nat.reduceMul, Nat.reduceSub, Nat.reduceGT, reduceIte, Int.reduceNeg, Int.reduceToNat]) |  refine And.intro ?_ ?_ | intro _))
    all_goals first | omega | skip
    rw [profileOk_iff.2 ⟨h.1, by omega, cntOk_all fun j hj => hf j hj (by omega)⟩]
end
def kCopyPr : Ctr := pur (fun args => prA args 0) (fun x => [.agg [.sl 3 (x.1.map encNode), .sl 1 (x.2.map encI)]]) (fun x => x.1.length ≤ 4398046511104 ∧ x.2.length ≤ 4398046511104) (fun d _ => .agg [.own d, .own (d + 1000)]) (fun d x => [(d, .sl 130 3 (x.1.map encNode)), (d + 1000, .sl 3 1 (x.2.map encI))])
section
noncomputable def cxCpS : Cx := { P := Tryz.prog, tys := tys, C := [(172, kCopyStk)], hty := tysOk, hC := COk.cons cCopyStkS (COk.nil _) }
theorem cxCpS_t : cxCpS.tys = tys := rfl
theorem cxCpS_c : cxCpS.C = [(172, kCopyStk)] := rfl
attribute [local go_sem] cxCpS_t cxCpS_c kCopyStk
theorem cCopyPrS : Cn Tryz.prog 144 kCopyPr := by
  refine Cn.pur Tryz.func144 (by kernel_rfl) rfl fun d x hx => ?_
  obtain ⟨N, C⟩ := x
  obtain ⟨hN, hC⟩ := hx
  simp only at hN hC ⊢
  refine Holds.go (c := cxCpS) Tryz.func144 rfl Tryz.results144 Tryz.ntmps144 (by omega) (by simp) rfl ?_
  intro X0 w0
  (repeat' (first | refine WP.seq ?_ | refine WP.block ?_ | ((first | refine WP.region ?_ | refine WP.condW ?_ | refine WP.ret ?_ | refine WP.exit ?_ | refine WP.skip ?_); simp only [go_sem, tyAll, Nat.reduceAdd, Nat.reduceLT, Nat.reduceLeDiff, Nat.reduceEqDiff, Nat.reduceMul, Nat.reduceSub, Nat.reduceGT, reduceIte, Int.reduceNeg, Int.reduceToNat]) | (refine WP.flowW 6 [⟨[1], [], [], [5, 6], [], []⟩, ⟨[3], [0], [], [5, 6], [], []⟩, ⟨[4], [0, 1], [], [6], [], [5]⟩, ⟨[], [], [], [5], [], [6]⟩, ⟨[1], [], [], [5, 6], [], []⟩, ⟨[7], [4], [], [5, 6], [], []⟩, ⟨[], [0, 1, 2, 3, 4, 5], [], [], [], []⟩, ⟨[], [0, 1, 2, 3, 4, 5, 6], [], [], [], []⟩, ⟨[], [0, 1, 2, 3, 4, 5, 6, 7], [], [], [], []⟩] [3, 4, 5, 6, 7, 8] [5, 6] [] (by decide +kernel) (by kernel_rfl) (by kernel_rfl) (by kernel_rfl) ?_; simp only [go_sem, tyAll, Nat.reduceAdd, Nat.reduceLT, Nat.reduceLeDiff, Nat.reduceEqDiff, Nat.reduceMul, Nat.reduceSub, Nat.reduceGT, reduceIte, Int.reduceNeg, Int.reduceToNat]) |  refine And.intro ?_ ?_ | intro _))
  all_goals first | omega | exact rlNode ‹_› | exact rlI ‹_› | exact ⟨_, _, _, rfl⟩ | exact ⟨_, _, rfl, _, _, rfl, rfl⟩ | exact if_neg (by omega) | skip
end
section
noncomputable def cxCpI : Cx := { P := Tryz.prog, tys := tys, C := [(190, kCopyStk)], hty := tysOk, hC := COk.cons cCopyStkI (COk.nil _) }
theorem cxCpI_t : cxCpI.tys = tys := rfl
theorem cxCpI_c : cxCpI.C = [(190, kCopyStk)] := rfl
attribute [local go_sem] cxCpI_t cxCpI_c kCopyStk
theorem cCopyPrI : Cn Tryz.prog 174 kCopyPr := by
  refine Cn.pur Tryz.func174 (by kernel_rfl) rfl fun d x hx => ?_
  obtain ⟨N, C⟩ := x
  obtain ⟨hN, hC⟩ := hx
  simp only at hN hC ⊢
  refine Holds.go (c := cxCpI) Tryz.func174 rfl Tryz.results174 Tryz.ntmps174 (by omega) (by simp) rfl ?_
  intro X0 w0
  (repeat' (first | refine WP.seq ?_ | refine WP.block ?_ | ((first | refine WP.region ?_ | refine WP.condW ?_ | refine WP.ret ?_ | refine WP.exit ?_ | refine WP.skip ?_); simp only [go_sem, tyAll, Nat.reduceAdd, Nat.reduceLT, Nat.reduceLeDiff, Nat.reduceEqDiff, Nat.reduceMul, Nat.reduceSub, Nat.reduceGT, reduceIte, Int.reduceNeg, Int.reduceToNat]) | (refine WP.flowW 6 [⟨[1], [], [], [5, 6], [], []⟩, ⟨[3], [0], [], [5, 6], [], []⟩, ⟨[4], [0, 1], [], [6], [], [5]⟩, ⟨[], [], [], [5], [], [6]⟩, ⟨[1], [], [], [5, 6], [], []⟩, ⟨[7], [4], [], [5, 6], [], []⟩, ⟨[], [0, 1, 2, 3, 4, 5], [], [], [], []⟩, ⟨[], [0, 1, 2, 3, 4, 5, 6], [], [], [], []⟩, ⟨[], [0, 1, 2, 3, 4, 5, 6, 7], [], [], [], []⟩] [3, 4, 5, 6, 7, 8] [5, 6] [] (by decide +kernel) (by kernel_rfl) (by kernel_rfl) (by kernel_rfl) ?_; simp only [go_sem, tyAll, Nat.reduceAdd, Nat.reduceLT, Nat.reduceLeDiff, Nat.reduceEqDiff, Nat.reduceMul, Nat.reduceSub, Nat.reduceGT, reduceIte, Int.reduceNeg, Int.reduceToNat]) |  refine And.intro ?_ ?_ | intro _))
  all_goals first | omega | exact rlNode ‹_› | exact rlI ‹_› | exact ⟨_, _, _, rfl⟩ | exact ⟨_, _, rfl, _, _, rfl, rfl⟩ | exact if_neg (by omega) | skip
end
end Go.Proofs.YtolnapfgfdgifaaGreatDoor

/-
  DERIVED. InternStack, of the reference and of the program.
-/
namespace Go.Proofs.YtolnapfgfdgifaaGreatDoor
open Go.Vc
set_option linter.unusedSimpArgs false
set_option linter.unusedVariables false
set_option maxHeartbeats 1000000
set_option maxRecDepth 10000
attribute [local go_sem] St.runR St.runW St.stepV offV St.step St.stepU St.stepG mkCond guardB St.prK St.pr St.prLen St.eff St.callE St.callD St.callF St.callL aI aB aS aR aC St.isM St.argL Ctr.pure Ctr.lend Ctr.move Ctr.isL Ctr.wri pur len lentBy St.lentV St.lent1 nthS argsR restOf obsR pairs swapL unObs backL St.resL erL SV.ren1 SV.up SV.up2 Ob.up St.fzL cellIds partIds St.intoRow SV.ownId St.fz SV.fz1 St.prep St.mvL St.mv SV.re1 rnOk St.prEq vals eqCells scEq Value.kd St.prStr St.prCut cutR St.bnd St.prMin St.bld isShift outL retL outJ oR oC St.ev St.get St.put St.new St.kill SV.kill SV.kill1 Ob.kill St.app St.wrt St.rowsOf St.res St.killL lk er argsL SV.strip SV.need SV.share SV.share1 SV.owns SV.owns1 SV.owns2 SV.good SV.good1 SV.rok SV.rok1 SV.rok2 SV.isV SV.isV2 nodupN SV.cells SV.one SV.pur partsIn rowsIn splice cellsAt dstOk scal2 scal1 thenK blockK retK outK outs okC okL okA okT nilC nilL nilA nilT keepC keepL keepA keepT St.runG St.dltK St.least St.clean St.final St.hide offK badS badO SV.refs SV.leaf SV.leaf2 Ob.refs dlOk fpAt Go.Vc.cover tups SV.ofAgg St.out outC subL St.has rng wr Value.oneCell' Option.isSome_some Option.isSome_none List.nil_append Bool.false_eq_true List.map_cons List.map_nil List.all_cons List.all_nil List.length_cons List.length_nil List.drop_zero List.drop_succ_cons List.take_succ_cons List.take_zero List.drop_nil List.take_nil List.getElem?_cons_zero List.getElem?_cons_succ List.getElem?_nil List.cons_append List.nil_append List.append_nil List.append_assoc List.flatMap_cons List.flatMap_nil List.contains_cons List.contains_nil List.set_cons_zero List.set_cons_succ List.getElem?_toArray Option.getD_some Option.getD_none Option.map_some Option.map_none Option.bind_some Option.some.injEq Prod.mk.injEq if_true if_false true_and and_true and_self and_false false_and Bool.and_false Bool.false_and Bool.or_true Bool.true_or Bool.or_false Bool.false_or ne_eq not_true_eq_false not_false_eq_true decide_true decide_false List.mem_cons List.not_mem_nil List.filter_cons List.filter_nil List.any_cons List.any_nil List.isEmpty_nil List.isEmpty_cons Option.getD_none or_false false_or true_or or_true forall_eq_or_imp forall_eq reduceCtorEq exists_eq exists_eq' exists_eq_left' exists_eq_left exists_eq_right exists_eq_right' imp_self implies_true Bool.and_true Bool.true_and Bool.and_self beq_self_eq_true List.replicate_succ List.replicate_zero forall_const false_implies pickB_or pickB_and beqT beqF Int.toNat_natCast List.length_map List.length_replicate ge_iff_le gt_iff_lt decide_eq_true_eq decide_eq_false_iff_not Bool.and_eq_true Bool.or_eq_true Bool.not_eq_true' Bool.not_eq_false' condG List.toList_toArray Bool.or_eq_false_iff Bool.and_eq_false_iff Int.not_lt Int.not_le beq_iff_eq beq_eq_false_iff_ne bne_iff_ne bne_eq_false_iff_eq ne_eq Bool.not_true Bool.not_false exists_and_left
attribute [local irreducible] Go.Vc.WP
attribute [local go_sem] cx0_t cx0_c
attribute [local go_sem] decNode_enc decFrame_enc oneFrame_enc stkA oneFrame_ab oneNode_abc
theorem intGo_step {L : List Frame} {k : Nat} (hk : k < L.length) (s : List Node × Int) : intGo (L.drop k) s = intGo (L.drop (k + 1)) (if child s.1 s.2 L[k] < 0 then (s.1 ++ [mkNode s.2 L[k]], (s.1.length : Int)) else (s.1, child s.1 s.2 L[k])) := by
  rw [List.drop_eq_getElem_cons hk, intGo]
theorem intern_no {N : List Node} {L : List Frame} (h : stacksOk N = false ∨ L.length = 0) : intern N L = (N, -1) := by
  unfold intern
  rw [if_neg]
  rintro ⟨h1, h2, _⟩
  rcases h with h | h
  · rw [h1] at h; cases h
  · exact h2 (List.eq_nil_of_length_eq_zero h)
theorem intern_bad {N : List Node} {L : List Frame} {k : Nat} (hk : k < L.length) (h : frOk L[k] = false) : intern N L = (N, -1) := by
  unfold intern
  rw [if_neg]
  rintro ⟨_, _, h3⟩
  rw [List.all_eq_true] at h3
  rw [h3 _ (List.getElem_mem hk)] at h; cases h
def wfF (L : List Frame) : Prop := L.length ≤ 1099511627776 ∧ ∀ f ∈ L, f.name.size ≤ 1099511627776
def kIntern : Ctr := pur (fun args => (stkA args 0, decFrame (aR args 1))) (fun x => [.agg [.sl 3 (x.1.map encNode)], .sl 2 (x.2.map encFrame)]) (fun x => (x.1.length + x.2.length ≤ 4398046511104 ∧ ∀ n ∈ x.1, n.name.size ≤ 1099511627776) ∧ ∀ f ∈ x.2, f.name.size ≤ 1099511627776)
  (fun d x => .tup [.agg [.own d], .v (.int .i64 (intern x.1 x.2).2)]) (fun d x => [(d, .sl 130 3 ((intern x.1 x.2).1.map encNode))])
theorem bndN {N M : List Node} {L : List Frame} {k : Nat} (h1 : M.length ≤ N.length + k) (h2 : k ≤ L.length) (h3 : N.length + L.length ≤ 4398046511104) : M.length ≤ 4398046511104 := by omega
section
noncomputable def cxInS : Cx := { P := Tryz.prog, tys := tys, C := [(90, kStOk), (172, kCopyStk), (123, kFrOk), (173, kChild)], hty := tysOk, hC := COk.cons cStOkS (COk.cons cCopyStkS (COk.cons cFrOkS (COk.cons cChildS (COk.nil _)))) }
theorem cxInS_t : cxInS.tys = tys := rfl
theorem cxInS_c : cxInS.C = [(90, kStOk), (172, kCopyStk), (123, kFrOk), (173, kChild)] := rfl
attribute [local go_sem] cxInS_t cxInS_c kStOk kCopyStk kFrOk kChild
theorem cInternS : Cn Tryz.prog 145 kIntern := by
  refine Cn.pur Tryz.func145 (by kernel_rfl) rfl fun d x hx => ?_
  obtain ⟨N, L⟩ := x
  obtain ⟨⟨hN, hs⟩, hL⟩ := hx
  simp only at hN hs hL ⊢
  refine Holds.go (c := cxInS) Tryz.func145 rfl Tryz.results145 Tryz.ntmps145 (by omega) (by simp) rfl ?_
  intro X0 w0
  (repeat' (first | refine WP.seq ?_ | refine WP.block ?_ | ((first | refine WP.region ?_ | refine WP.condW ?_ | refine WP.ret ?_ | refine WP.exit ?_ | refine WP.skip ?_); simp only [go_sem, tyAll, Nat.reduceAdd, Nat.reduceLT, Nat.reduceLeDiff, Nat.reduceEqDiff, Nat.reduceMul, Nat.reduceSub, Nat.reduceGT, reduceIte, Int.reduceNeg, Int.reduceToNat]) | (refine WP.drawW 7 (by decide +kernel) (by kernel_rfl) ?_; simp only [go_sem, tyAll, Nat.reduceAdd, Nat.reduceLT, Nat.reduceLeDiff, Nat.reduceEqDiff, Nat.reduceMul, Nat.reduceSub, Nat.reduceGT, reduceIte, Int.reduceNeg, Int.reduceToNat]) | (refine WP.flowW 9 [⟨[6], [], [], [55], [], []⟩, ⟨[47], [0], [], [55], [], []⟩, ⟨[7], [], [], [55], [], []⟩, ⟨[1], [], [], [55], [], []⟩, ⟨[8], [], [], [55], [], []⟩, ⟨[50, 51], [3, 4], [], [55], [], []⟩, ⟨[52], [3, 4, 5], [], [55], [], []⟩, ⟨[49, 53], [2, 3, 4, 5, 6], [], [55], [], []⟩, ⟨[54], [2, 3, 4, 5, 6, 7], [], [], [], [55]⟩, ⟨[], [0, 1, 2, 3, 4, 5, 6, 7, 8], [], [], [], []⟩, ⟨[], [0, 1, 2, 3, 4, 5, 6, 7, 8, 9], [], [], [], []⟩, ⟨[], [0, 1, 2, 3, 4, 5, 6, 7, 8, 9, 10], [], [], [], []⟩] [47, 48, 49, 50, 51, 52, 53, 54, 55] [55] [] (by decide +kernel) (by kernel_rfl) (by kernel_rfl) (by kernel_rfl) ?_; simp only [go_sem, tyAll, Nat.reduceAdd, Nat.reduceLT, Nat.reduceLeDiff, Nat.reduceEqDiff, Nat.reduceMul, Nat.reduceSub, Nat.reduceGT, reduceIte, Int.reduceNeg, Int.reduceToNat]) |  refine And.intro ?_ ?_ | intro _))
  all_goals first | omega | exact hs _ ‹_› | exact ⟨_, _, _, rfl⟩ | exact ⟨_, _, rfl, _, _, rfl, rfl⟩ | skip
  · rename_i h; rw [intern_no (h.imp_right fun e => by omega)]
  · rename_i h; rw [intern_no (h.imp_right fun e => by omega)]
  rename_i h
  have hi : intern N L = if L.all frOk = true then intGo L (N, -1) else (N, -1) := by
    unfold intern
    by_cases ha : L.all frOk = true
    · rw [if_pos ha, if_pos ⟨h.1, fun e => by subst e; simp at h, ha⟩]
    · rw [if_neg ha, if_neg fun hc => ha hc.2.2]
  refine WP.loop (fun s : Nat × List Node × Int => ⟨[(1, .sl 2 (L.map encFrame)), (2, .ptr 2 0 0 0), (4, .ptr 4 0 0 0), (6, .ptr 6 0 0 0), (7, .v (.int .i64 s.2.2)), (8, .v (.int .i64 s.1))],
    [(2, .box 33 [.sl 3 (N.map encNode)]), (4, .box 33 [.v (.slice none 0 0)]), (6, .box 33 [.own 11]), (11, .sl 130 3 (s.2.1.map encNode))]⟩)
    (fun s => s.1 ≤ L.length ∧ (∀ j (hj : j < L.length), j < s.1 → frOk L[j] = true) ∧ intGo L (N, -1) = intGo (L.drop s.1) s.2 ∧ s.2.1.length ≤ N.length + s.1 ∧ -1 ≤ s.2.2 ∧ s.2.2 < s.2.1.length) (fun s => L.length - s.1) (0, N, -1) ⟨by simp, by simp, by simp, by simp, by simp only; omega, by simp only; omega⟩ ?_ ?_
  · (simp only [go_sem, tyAll, Nat.reduceAdd, Nat.reduceLT, Nat.reduceLeDiff, Nat.reduceEqDiff, Nat.reduceMul, Nat.reduceSub, Nat.reduceGT, reduceIte, Int.reduceNeg, Int.reduceToNat] <;> (first | rfl | exact ⟨rfl, rfl⟩ | exact ⟨rfl, rfl, rfl⟩ | exact ⟨rfl, rfl, rfl, rfl⟩ | exact ⟨rfl, rfl, rfl, rfl, rfl⟩ | exact ⟨⟨rfl, rfl⟩, rfl⟩ | simp))
  rintro ⟨k, M, at'⟩ ⟨hk, hf, hg, hm, ha0, ha1⟩
  simp only at hk hf hg hm ha0 ha1 ⊢
  by_cases hlt : k < L.length
  · have h1 := rowAt_map encFrame L k hlt
    have hnm := hL _ (List.getElem_mem hlt)
    have hst := intGo_step hlt (M, at')
    have hcb := child_bound M at' L[k]
    rw [← hg] at hst
    simp only at hst hcb
    (repeat' (first | refine WP.seq ?_ | refine WP.block ?_ | ((first | refine WP.region ?_ | refine WP.condW ?_ | refine WP.ret ?_ | refine WP.exit ?_ | refine WP.skip ?_); simp only [go_sem, h1, encFrame, tyAll, Nat.reduceAdd, Nat.reduceLT, Nat.reduceLeDiff, Nat.reduceEqDiff, Nat.reduceMul, Nat.reduceSub, Nat.reduceGT, reduceIte, Int.reduceNeg, Int.reduceToNat]) | (refine WP.drawW 7 (by decide +kernel) (by kernel_rfl) ?_; simp only [go_sem, h1, encFrame, tyAll, Nat.reduceAdd, Nat.reduceLT, Nat.reduceLeDiff, Nat.reduceEqDiff, Nat.reduceMul, Nat.reduceSub, Nat.reduceGT, reduceIte, Int.reduceNeg, Int.reduceToNat]) | (refine WP.flowW 9 [⟨[6], [], [], [55], [], []⟩, ⟨[47], [0], [], [55], [], []⟩, ⟨[7], [], [], [55], [], []⟩, ⟨[1], [], [], [55], [], []⟩, ⟨[8], [], [], [55], [], []⟩, ⟨[50, 51], [3, 4], [], [55], [], []⟩, ⟨[52], [3, 4, 5], [], [55], [], []⟩, ⟨[49, 53], [2, 3, 4, 5, 6], [], [55], [], []⟩, ⟨[54], [2, 3, 4, 5, 6, 7], [], [], [], [55]⟩, ⟨[], [0, 1, 2, 3, 4, 5, 6, 7, 8], [], [], [], []⟩, ⟨[], [0, 1, 2, 3, 4, 5, 6, 7, 8, 9], [], [], [], []⟩, ⟨[], [0, 1, 2, 3, 4, 5, 6, 7, 8, 9, 10], [], [], [], []⟩] [47, 48, 49, 50, 51, 52, 53, 54, 55] [55] [] (by decide +kernel) (by kernel_rfl) (by kernel_rfl) (by kernel_rfl) ?_; simp only [go_sem, h1, encFrame, tyAll, Nat.reduceAdd, Nat.reduceLT, Nat.reduceLeDiff, Nat.reduceEqDiff, Nat.reduceMul, Nat.reduceSub, Nat.reduceGT, reduceIte, Int.reduceNeg, Int.reduceToNat]) |  refine And.intro ?_ ?_ | intro _))
    all_goals first | omega | exact rlNode ‹_› | exact ⟨_, _, _, rfl⟩ | exact ⟨_, _, rfl, _, _, rfl, rfl⟩ | skip
    · rename_i hb; rw [intern_bad hlt hb]
    · rename_i hb; rw [intern_bad hlt hb]
    · rename_i hfr hc
      have hc' : child M at' L[k] < 0 := hc
      rw [if_pos hc'] at hst
      refine ⟨(k + 1, M ++ [mkNode at' L[k]], (M.length : Int)), ⟨by simp only; omega, fun j hj hjk => ?_, hst, by simp only [List.length_append, List.length_cons, List.length_nil]; omega, by simp only; omega, by simp only [List.length_append, List.length_cons, List.length_nil]; omega⟩, by simp only; omega, by (first | rfl | exact ⟨rfl, rfl⟩ | exact ⟨rfl, rfl, rfl⟩ | exact ⟨rfl, rfl, rfl, rfl⟩ | exact ⟨rfl, rfl, rfl, rfl, rfl⟩ | exact ⟨⟨rfl, rfl⟩, rfl⟩ | simp), by simp only [List.map_append, List.map_cons, List.map_nil]; rfl⟩
      rcases Nat.lt_or_ge j k with hh | hh
      · exact hf j hj hh
      · have : j = k := by omega
        subst this; exact hfr
    · rename_i hfr hc
      have hc' : ¬ child M at' L[k] < 0 := by show ¬ child M at' ⟨L[k].name, L[k].line⟩ < 0; omega
      rw [if_neg hc'] at hst
      refine ⟨(k + 1, M, child M at' L[k]), ⟨by simp only; omega, fun j hj hjk => ?_, hst, by simp only; omega, by simp only; omega, by simp only; omega⟩, by simp only; omega, by (first | rfl | exact ⟨rfl, rfl⟩ | exact ⟨rfl, rfl, rfl⟩ | exact ⟨rfl, rfl, rfl, rfl⟩ | exact ⟨rfl, rfl, rfl, rfl, rfl⟩ | exact ⟨⟨rfl, rfl⟩, rfl⟩ | simp)⟩
      rcases Nat.lt_or_ge j k with hh | hh
      · exact hf j hj hh
      · have : j = k := by omega
        subst this; exact hfr
  · have hall : L.all frOk = true := by
      rw [List.all_eq_true]
      intro f hfm
      obtain ⟨j, hj, rfl⟩ := List.mem_iff_getElem.1 hfm
      exact hf j hj (by omega)
    rw [if_pos hall, hg, show k = L.length by omega, List.drop_length, intGo] at hi
    (repeat' (first | refine WP.seq ?_ | refine WP.block ?_ | ((first | refine WP.region ?_ | refine WP.condW ?_ | refine WP.ret ?_ | refine WP.exit ?_ | refine WP.skip ?_); simp only [go_sem, tyAll, Nat.reduceAdd, Nat.reduceLT, Nat.reduceLeDiff, Nat.reduceEqDiff, Nat.reduceMul, Nat.reduceSub, Nat.reduceGT, reduceIte, Int.reduceNeg, Int.reduceToNat]) | (refine WP.drawW 7 (by decide +kernel) (by kernel_rfl) ?_; simp only [go_sem, tyAll, Nat.reduceAdd, Nat.reduceLT, Nat.reduceLeDiff, Nat.reduceEqDiff, Nat.reduceMul, Nat.reduceSub, Nat.reduceGT, reduceIte, Int.reduceNeg, Int.reduceToNat]) | (refine WP.flowW 9 [⟨[6], [], [], [55], [], []⟩, ⟨[47], [0], [], [55], [], []⟩, ⟨[7], [], [], [55], [], []⟩, ⟨[1], [], [], [55], [], []⟩, ⟨[8], [], [], [55], [], []⟩, ⟨[50, 51], [3, 4], [], [55], [], []⟩, ⟨[52], [3, 4, 5], [], [55], [], []⟩, ⟨[49, 53], [2, 3, 4, 5, 6], [], [55], [], []⟩, ⟨[54], [2, 3, 4, 5, 6, 7], [], [], [], [55]⟩, ⟨[], [0, 1, 2, 3, 4, 5, 6, 7, 8], [], [], [], []⟩, ⟨[], [0, 1, 2, 3, 4, 5, 6, 7, 8, 9], [], [], [], []⟩, ⟨[], [0, 1, 2, 3, 4, 5, 6, 7, 8, 9, 10], [], [], [], []⟩] [47, 48, 49, 50, 51, 52, 53, 54, 55] [55] [] (by decide +kernel) (by kernel_rfl) (by kernel_rfl) (by kernel_rfl) ?_; simp only [go_sem, tyAll, Nat.reduceAdd, Nat.reduceLT, Nat.reduceLeDiff, Nat.reduceEqDiff, Nat.reduceMul, Nat.reduceSub, Nat.reduceGT, reduceIte, Int.reduceNeg, Int.reduceToNat]) |  refine And.intro ?_ ?_ | intro _))
    all_goals first | omega | exact rlNode ‹_› | exact ⟨_, _, _, rfl⟩ | exact ⟨_, _, rfl, _, _, rfl, rfl⟩ | skip
    · rw [hi]
    · rw [hi]
end
section
noncomputable def cxInI : Cx := { P := Tryz.prog, tys := tys, C := [(95, kStOk), (190, kCopyStk), (125, kFrOk), (191, kChild)], hty := tysOk, hC := COk.cons cStOkI (COk.cons cCopyStkI (COk.cons cFrOkI (COk.cons cChildI (COk.nil _)))) }
theorem cxInI_t : cxInI.tys = tys := rfl
theorem cxInI_c : cxInI.C = [(95, kStOk), (190, kCopyStk), (125, kFrOk), (191, kChild)] := rfl
attribute [local go_sem] cxInI_t cxInI_c kStOk kCopyStk kFrOk kChild
theorem cInternI : Cn Tryz.prog 175 kIntern := by
  refine Cn.pur Tryz.func175 (by kernel_rfl) rfl fun d x hx => ?_
  obtain ⟨N, L⟩ := x
  obtain ⟨⟨hN, hs⟩, hL⟩ := hx
  simp only at hN hs hL ⊢
  refine Holds.go (c := cxInI) Tryz.func175 rfl Tryz.results175 Tryz.ntmps175 (by omega) (by simp) rfl ?_
  intro X0 w0
  (repeat' (first | refine WP.seq ?_ | refine WP.block ?_ | ((first | refine WP.region ?_ | refine WP.condW ?_ | refine WP.ret ?_ | refine WP.exit ?_ | refine WP.skip ?_); simp only [go_sem, tyAll, Nat.reduceAdd, Nat.reduceLT, Nat.reduceLeDiff, Nat.reduceEqDiff, Nat.reduceMul, Nat.reduceSub, Nat.reduceGT, reduceIte, Int.reduceNeg, Int.reduceToNat]) |  refine And.intro ?_ ?_ | intro _))
  all_goals first | omega | exact hs _ ‹_› | exact ⟨_, _, _, rfl⟩ | exact ⟨_, _, rfl, _, _, rfl, rfl⟩ | skip
  · rename_i h; rw [intern_no (h.imp_right fun e => by omega)]
  · rename_i h; rw [intern_no (h.imp_right fun e => by omega)]
  rename_i h
  have hi : intern N L = if L.all frOk = true then intGo L (N, -1) else (N, -1) := by
    unfold intern
    by_cases ha : L.all frOk = true
    · rw [if_pos ha, if_pos ⟨h.1, fun e => by subst e; simp at h, ha⟩]
    · rw [if_neg ha, if_neg fun hc => ha hc.2.2]
  refine WP.loop (fun k : Nat => ⟨[(1, .sl 2 (L.map encFrame)), (4, .ptr 4 0 0 0), (6, .ptr 6 0 0 0), (24, .sl 2 (L.map encFrame)), (25, .v (.int .i64 L.length)), (26, .v (.int .i64 k))],
    [(4, .box 33 [.v (.slice none 0 0)]), (6, .box 33 [.own 14]), (14, .sl 130 3 (N.map encNode))]⟩)
    (fun k => k ≤ L.length ∧ (∀ j (hj : j < L.length), j < k → frOk L[j] = true)) (fun k => L.length - k) 0 ⟨by simp, by simp⟩ ?_ ?_
  · (simp only [go_sem, tyAll, Nat.reduceAdd, Nat.reduceLT, Nat.reduceLeDiff, Nat.reduceEqDiff, Nat.reduceMul, Nat.reduceSub, Nat.reduceGT, reduceIte, Int.reduceNeg, Int.reduceToNat] <;> (first | rfl | exact ⟨rfl, rfl⟩ | exact ⟨rfl, rfl, rfl⟩ | exact ⟨rfl, rfl, rfl, rfl⟩ | exact ⟨rfl, rfl, rfl, rfl, rfl⟩ | exact ⟨⟨rfl, rfl⟩, rfl⟩ | simp))
  intro k ⟨hk, hf⟩
  by_cases hlt : k < L.length
  · have h1 := rowAt_map encFrame L k hlt
    have hnm := hL _ (List.getElem_mem hlt)
    (repeat' (first | refine WP.seq ?_ | refine WP.block ?_ | ((first | refine WP.region ?_ | refine WP.condW ?_ | refine WP.ret ?_ | refine WP.exit ?_ | refine WP.skip ?_); simp only [go_sem, h1, encFrame, tyAll, Nat.reduceAdd, Nat.reduceLT, Nat.reduceLeDiff, Nat.reduceEqDiff, Nat.reduceMul, Nat.reduceSub, Nat.reduceGT, reduceIte, Int.reduceNeg, Int.reduceToNat]) |  refine And.intro ?_ ?_ | intro _))
    all_goals first | omega | exact rlNode ‹_› | exact ⟨_, _, _, rfl⟩ | exact ⟨_, _, rfl, _, _, rfl, rfl⟩ | skip
    · rename_i hb; rw [intern_bad hlt hb]
    · rename_i hb; rw [intern_bad hlt hb]
    · rename_i hfr
      refine ⟨k + 1, ⟨by omega, fun j hj hjk => ?_⟩, by omega, by (first | rfl | exact ⟨rfl, rfl⟩ | exact ⟨rfl, rfl, rfl⟩ | exact ⟨rfl, rfl, rfl, rfl⟩ | exact ⟨rfl, rfl, rfl, rfl, rfl⟩ | exact ⟨⟨rfl, rfl⟩, rfl⟩ | simp)⟩
      rcases Nat.lt_or_ge j k with hh | hh
      · exact hf j hj hh
      · have : j = k := by omega
        subst this; exact hfr
  have hall : L.all frOk = true := by
    rw [List.all_eq_true]
    intro f hfm
    obtain ⟨j, hj, rfl⟩ := List.mem_iff_getElem.1 hfm
    exact hf j hj (by omega)
  rw [if_pos hall] at hi
  (repeat' (first | refine WP.seq ?_ | refine WP.block ?_ | ((first | refine WP.region ?_ | refine WP.condW ?_ | refine WP.ret ?_ | refine WP.exit ?_ | refine WP.skip ?_); simp only [go_sem, tyAll, Nat.reduceAdd, Nat.reduceLT, Nat.reduceLeDiff, Nat.reduceEqDiff, Nat.reduceMul, Nat.reduceSub, Nat.reduceGT, reduceIte, Int.reduceNeg, Int.reduceToNat]) |  refine And.intro ?_ ?_ | intro _))
  all_goals first | omega | skip
  refine WP.loop (fun s : Nat × List Node × Int => ⟨[(4, .ptr 4 0 0 0), (6, .ptr 6 0 0 0), (9, .v (.int .i64 s.2.2)), (35, .sl 2 (L.map encFrame)), (36, .v (.int .i64 L.length)), (37, .v (.int .i64 s.1))],
    [(4, .box 33 [.v (.slice none 0 0)]), (6, .box 33 [.own 14]), (14, .sl 130 3 (s.2.1.map encNode))]⟩)
    (fun s => s.1 ≤ L.length ∧ intGo L (N, -1) = intGo (L.drop s.1) s.2 ∧ s.2.1.length ≤ N.length + s.1 ∧ -1 ≤ s.2.2 ∧ s.2.2 < s.2.1.length) (fun s => L.length - s.1) (0, N, -1) ⟨by simp, by simp, by simp, by simp only; omega, by simp only; omega⟩ ?_ ?_
  · (simp only [go_sem, tyAll, Nat.reduceAdd, Nat.reduceLT, Nat.reduceLeDiff, Nat.reduceEqDiff, Nat.reduceMul, Nat.reduceSub, Nat.reduceGT, reduceIte, Int.reduceNeg, Int.reduceToNat] <;> (first | rfl | exact ⟨rfl, rfl⟩ | exact ⟨rfl, rfl, rfl⟩ | exact ⟨rfl, rfl, rfl, rfl⟩ | exact ⟨rfl, rfl, rfl, rfl, rfl⟩ | exact ⟨⟨rfl, rfl⟩, rfl⟩ | simp))
  rintro ⟨k, M, at'⟩ ⟨hk, hg, hm, ha0, ha1⟩
  simp only at hk hg hm ha0 ha1 ⊢
  by_cases hlt : k < L.length
  · have h1 := rowAt_map encFrame L k hlt
    have hnm := hL _ (List.getElem_mem hlt)
    have hst := intGo_step hlt (M, at')
    have hcb := child_bound M at' L[k]
    rw [← hg] at hst
    simp only at hst hcb
    (repeat' (first | refine WP.seq ?_ | refine WP.block ?_ | ((first | refine WP.region ?_ | refine WP.condW ?_ | refine WP.ret ?_ | refine WP.exit ?_ | refine WP.skip ?_); simp only [go_sem, h1, encFrame, tyAll, Nat.reduceAdd, Nat.reduceLT, Nat.reduceLeDiff, Nat.reduceEqDiff, Nat.reduceMul, Nat.reduceSub, Nat.reduceGT, reduceIte, Int.reduceNeg, Int.reduceToNat]) |  refine And.intro ?_ ?_ | intro _))
    all_goals first | omega | exact rlNode ‹_› | exact ⟨_, _, _, rfl⟩ | exact ⟨_, _, rfl, _, _, rfl, rfl⟩ | skip
    · rename_i hc
      have hc' : child M at' L[k] < 0 := hc
      rw [if_pos hc'] at hst
      refine ⟨(k + 1, M ++ [mkNode at' L[k]], (M.length : Int)), ⟨by simp only; omega, hst, by simp only [List.length_append, List.length_cons, List.length_nil]; omega, by simp only; omega, by simp only [List.length_append, List.length_cons, List.length_nil]; omega⟩, by simp only; omega, by (first | rfl | exact ⟨rfl, rfl⟩ | exact ⟨rfl, rfl, rfl⟩ | exact ⟨rfl, rfl, rfl, rfl⟩ | exact ⟨rfl, rfl, rfl, rfl, rfl⟩ | exact ⟨⟨rfl, rfl⟩, rfl⟩ | simp), by simp only [List.map_append, List.map_cons, List.map_nil]; rfl⟩
    · rename_i hc
      have hc' : ¬ child M at' L[k] < 0 := by show ¬ child M at' ⟨L[k].name, L[k].line⟩ < 0; omega
      rw [if_neg hc'] at hst
      refine ⟨(k + 1, M, child M at' L[k]), ⟨by simp only; omega, hst, by simp only; omega, by simp only; omega, by simp only; omega⟩, by simp only; omega, by (first | rfl | exact ⟨rfl, rfl⟩ | exact ⟨rfl, rfl, rfl⟩ | exact ⟨rfl, rfl, rfl, rfl⟩ | exact ⟨rfl, rfl, rfl, rfl, rfl⟩ | exact ⟨⟨rfl, rfl⟩, rfl⟩ | simp)⟩
  · rw [hg, show k = L.length by omega, List.drop_length, intGo] at hi
    (repeat' (first | refine WP.seq ?_ | refine WP.block ?_ | ((first | refine WP.region ?_ | refine WP.condW ?_ | refine WP.ret ?_ | refine WP.exit ?_ | refine WP.skip ?_); simp only [go_sem, tyAll, Nat.reduceAdd, Nat.reduceLT, Nat.reduceLeDiff, Nat.reduceEqDiff, Nat.reduceMul, Nat.reduceSub, Nat.reduceGT, reduceIte, Int.reduceNeg, Int.reduceToNat]) |  refine And.intro ?_ ?_ | intro _))
    all_goals first | omega | exact rlNode ‹_› | exact ⟨_, _, _, rfl⟩ | exact ⟨_, _, rfl, _, _, rfl, rfl⟩ | skip
    · rw [hi]
    · rw [hi]
end
end Go.Proofs.YtolnapfgfdgifaaGreatDoor

/-
  DERIVED. AddStack, of the reference and of the program.
-/
namespace Go.Proofs.YtolnapfgfdgifaaGreatDoor
open Go.Vc
set_option linter.unusedSimpArgs false
set_option linter.unusedVariables false
set_option maxHeartbeats 1000000
set_option maxRecDepth 10000
attribute [local go_sem] St.runR St.runW St.stepV offV St.step St.stepU St.stepG mkCond guardB St.prK St.pr St.prLen St.eff St.callE St.callD St.callF St.callL aI aB aS aR aC St.isM St.argL Ctr.pure Ctr.lend Ctr.move Ctr.isL Ctr.wri pur len lentBy St.lentV St.lent1 nthS argsR restOf obsR pairs swapL unObs backL St.resL erL SV.ren1 SV.up SV.up2 Ob.up St.fzL cellIds partIds St.intoRow SV.ownId St.fz SV.fz1 St.prep St.mvL St.mv SV.re1 rnOk St.prEq vals eqCells scEq Value.kd St.prStr St.prCut cutR St.bnd St.prMin St.bld isShift outL retL outJ oR oC St.ev St.get St.put St.new St.kill SV.kill SV.kill1 Ob.kill St.app St.wrt St.rowsOf St.res St.killL lk er argsL SV.strip SV.need SV.share SV.share1 SV.owns SV.owns1 SV.owns2 SV.good SV.good1 SV.rok SV.rok1 SV.rok2 SV.isV SV.isV2 nodupN SV.cells SV.one SV.pur partsIn rowsIn splice cellsAt dstOk scal2 scal1 thenK blockK retK outK outs okC okL okA okT nilC nilL nilA nilT keepC keepL keepA keepT St.runG St.dltK St.least St.clean St.final St.hide offK badS badO SV.refs SV.leaf SV.leaf2 Ob.refs dlOk fpAt Go.Vc.cover tups SV.ofAgg St.out outC subL St.has rng wr Value.oneCell' Option.isSome_some Option.isSome_none List.nil_append Bool.false_eq_true List.map_cons List.map_nil List.all_cons List.all_nil List.length_cons List.length_nil List.drop_zero List.drop_succ_cons List.take_succ_cons List.take_zero List.drop_nil List.take_nil List.getElem?_cons_zero List.getElem?_cons_succ List.getElem?_nil List.cons_append List.nil_append List.append_nil List.append_assoc List.flatMap_cons List.flatMap_nil List.contains_cons List.contains_nil List.set_cons_zero List.set_cons_succ List.getElem?_toArray Option.getD_some Option.getD_none Option.map_some Option.map_none Option.bind_some Option.some.injEq Prod.mk.injEq if_true if_false true_and and_true and_self and_false false_and Bool.and_false Bool.false_and Bool.or_true Bool.true_or Bool.or_false Bool.false_or ne_eq not_true_eq_false not_false_eq_true decide_true decide_false List.mem_cons List.not_mem_nil List.filter_cons List.filter_nil List.any_cons List.any_nil List.isEmpty_nil List.isEmpty_cons Option.getD_none or_false false_or true_or or_true forall_eq_or_imp forall_eq reduceCtorEq exists_eq exists_eq' exists_eq_left' exists_eq_left exists_eq_right exists_eq_right' imp_self implies_true Bool.and_true Bool.true_and Bool.and_self beq_self_eq_true List.replicate_succ List.replicate_zero forall_const false_implies pickB_or pickB_and beqT beqF Int.toNat_natCast List.length_map List.length_replicate ge_iff_le gt_iff_lt decide_eq_true_eq decide_eq_false_iff_not Bool.and_eq_true Bool.or_eq_true Bool.not_eq_true' Bool.not_eq_false' condG List.toList_toArray Bool.or_eq_false_iff Bool.and_eq_false_iff Int.not_lt Int.not_le beq_iff_eq beq_eq_false_iff_ne bne_iff_ne bne_eq_false_iff_eq ne_eq Bool.not_true Bool.not_false exists_and_left
attribute [local irreducible] Go.Vc.WP
attribute [local go_sem] cx0_t cx0_c
attribute [local go_sem] decNode_enc decFrame_enc oneFrame_enc stkA oneFrame_ab oneNode_abc decI_enc prA
theorem padC (C : List Int) (j : Nat) : (C ++ List.replicate j 0).map encI ++ [[SV.v (.int .i64 0)]] = (C ++ List.replicate (j + 1) 0).map encI := by
  rw [List.replicate_succ', ← List.append_assoc, List.map_append (l₂ := [0])]; rfl
theorem padC_get {C : List Int} {m k : Nat} (hk : k < C.length + m) (h0 : ∀ x ∈ C, 0 ≤ x ∧ x ≤ 1000000000000) : 0 ≤ (C ++ List.replicate m 0).getD k 0 ∧ (C ++ List.replicate m 0).getD k 0 ≤ 1000000000000 := by
  rw [List.getD_eq_getElem?_getD, List.getElem?_append]
  split
  · rename_i h
    rw [List.getElem?_eq_getElem h]
    exact h0 _ (List.getElem_mem h)
  · rename_i h
    rw [List.getElem?_replicate, if_pos (by omega)]; simp
def kAddStack : Ctr := pur (fun args => (prA args 0, decFrame (aR args 1), aI args 2)) (fun x => [.agg [.sl 3 (x.1.1.map encNode), .sl 1 (x.1.2.map encI)], .sl 2 (x.2.1.map encFrame), .v (.int .i64 x.2.2)])
  (fun x => (x.1.1.length + x.2.1.length ≤ 4398046511104 ∧ (∀ n ∈ x.1.1, n.name.size ≤ 1099511627776) ∧ x.1.2.length ≤ 4398046511104) ∧ ∀ f ∈ x.2.1, f.name.size ≤ 1099511627776)
  (fun d x => .tup [.agg [.own d, .own (d + 1000)], .v (.bool (addStack x.1.1 x.1.2 x.2.1 x.2.2).2)]) (fun d x => [(d, .sl 130 3 ((addStack x.1.1 x.1.2 x.2.1 x.2.2).1.1.map encNode)), (d + 1000, .sl 3 1 ((addStack x.1.1 x.1.2 x.2.1 x.2.2).1.2.map encI))])
theorem addNo {N : List Node} {C : List Int} {L : List Frame} {n : Int} (h : profileOk N C = false ∨ n < 0 ∨ 1000000000000 < n ∨ (intern N L).2 < 0) : addStack N C L n = ((N, C), false) := by
  unfold addStack
  rw [if_neg]
  rintro ⟨h1, h2, h3, h4, _⟩
  rcases h with h | h | h | h
  · rw [h1] at h; cases h
  · omega
  · omega
  · omega
section
noncomputable def cxAsS : Cx := { P := Tryz.prog, tys := tys, C := [(46, kPrOk), (47, k60), (144, kCopyPr), (145, kIntern)], hty := tysOk, hC := COk.cons cPrOkS (COk.cons c58 (COk.cons cCopyPrS (COk.cons cInternS (COk.nil _)))) }
theorem cxAsS_t : cxAsS.tys = tys := rfl
theorem cxAsS_c : cxAsS.C = [(46, kPrOk), (47, k60), (144, kCopyPr), (145, kIntern)] := rfl
attribute [local go_sem] cxAsS_t cxAsS_c kPrOk k60 kCopyPr kIntern
theorem cAddStackS : Cn Tryz.prog 118 kAddStack := by
  refine Cn.pur Tryz.func118 (by kernel_rfl) rfl fun d x hx => ?_
  obtain ⟨⟨N, C⟩, L, n⟩ := x
  obtain ⟨⟨hN, hs, hC⟩, hL⟩ := hx
  simp only at hN hs hC hL ⊢
  have hil := intern_len N L
  have hia := intern_at N L
  have hin := intern_names (B := 1099511627776) hs hL
  have hadd : profileOk N C = false ∨ n < 0 ∨ 1000000000000 < n ∨ (intern N L).2 < 0 → addStack N C L n = ((N, C), false) := addNo
  have hyes : profileOk N C = true → 0 ≤ n → n ≤ 1000000000000 → 0 ≤ (intern N L).2 → addStack N C L n = if profileOk (intern N L).1 (addC C (intern N L).1.length (intern N L).2.toNat n) = true then (((intern N L).1, addC C (intern N L).1.length (intern N L).2.toNat n), true) else ((N, C), false) := fun h1 h2 h3 h4 => by
    unfold addStack
    by_cases hp : profileOk (intern N L).1 (addC C (intern N L).1.length (intern N L).2.toNat n) = true
    · rw [if_pos hp, if_pos ⟨h1, h2, h3, h4, hp⟩]
    · rw [if_neg hp, if_neg fun hc => hp hc.2.2.2.2]
  generalize hI : intern N L = I at *
  obtain ⟨M, at'⟩ := I
  simp only at hil hia hin hadd hyes
  generalize hA : addStack N C L n = A at *
  refine Holds.go (c := cxAsS) Tryz.func118 rfl Tryz.results118 Tryz.ntmps118 (by omega) (by simp) rfl ?_
  intro X0 w0
  (repeat' (first | refine WP.seq ?_ | refine WP.block ?_ | ((first | refine WP.region ?_ | refine WP.condW ?_ | refine WP.ret ?_ | refine WP.exit ?_ | refine WP.skip ?_); simp only [go_sem, hI, tyAll, Nat.reduceAdd, Nat.reduceLT, Nat.reduceLeDiff, Nat.reduceEqDiff, Nat.reduceMul, Nat.reduceSub, Nat.reduceGT, reduceIte, Int.reduceNeg, Int.reduceToNat]) | (refine WP.drawW 10 (by decide +kernel) (by kernel_rfl) ?_; simp only [go_sem, hI, tyAll, Nat.reduceAdd, Nat.reduceLT, Nat.reduceLeDiff, Nat.reduceEqDiff, Nat.reduceMul, Nat.reduceSub, Nat.reduceGT, reduceIte, Int.reduceNeg, Int.reduceToNat]) |  refine And.intro ?_ ?_ | intro _))
  all_goals first | omega | (simp only; omega) | exact hs _ ‹_› | exact hL _ ‹_› | exact ⟨_, _, _, rfl⟩ | exact ⟨_, _, rfl, _, _, rfl, rfl⟩ | skip
  iterate 3
    · rename_i h
      have e := hadd (h.elim .inl fun h => .inr (h.elim .inl fun h => .inr (.inl h)))
      subst e
      first | rfl | exact if_neg (by omega)
  iterate 3
    · rename_i h1 h
      have e := hadd (.inr (.inr (.inr h)))
      subst e
      first | rfl | exact if_neg (by omega)
  rename_i h h0
  obtain ⟨hpo, hn0, hn1⟩ := h
  have hy := hyes hpo hn0 hn1 (by omega)
  obtain ⟨_, hlen, hcnt⟩ := profileOk_iff.1 hpo
  have hpos : ∀ x ∈ C, 0 ≤ x ∧ x ≤ 1000000000000 := fun x hx => by
    obtain ⟨j, hj, rfl⟩ := List.mem_iff_getElem.1 hx
    have h1 := cntOk_at hcnt j hj
    have h2 := profileOk_sum hpo j (by omega)
    omega
  refine WP.loop (fun j : Nat => ⟨[(2, .v (.int .i64 n)), (3, .ptr 3 0 0 0), (6, .ptr 6 0 0 0), (8, .ptr 8 0 0 0), (9, .ptr 9 0 0 0), (10, .v (.int .i64 at'))],
    [(3, .box 35 [.sl 3 (N.map encNode), .sl 1 (C.map encI)]), (6, .box 35 [.v (.slice none 0 0), .v (.slice none 0 0)]), (8, .box 35 [.own 27, .own 1022]), (9, .box 33 [.own 27]), (27, .sl 130 3 (M.map encNode)), (1022, .sl 3 1 ((C ++ List.replicate j 0).map encI))]⟩)
    (fun j => C.length + j ≤ M.length) (fun j => M.length - j) 0 (by omega) ?_ ?_
  · have e0 : C ++ List.replicate 0 0 = C := by simp
    (simp only [go_sem, e0, tyAll, Nat.reduceAdd, Nat.reduceLT, Nat.reduceLeDiff, Nat.reduceEqDiff, Nat.reduceMul, Nat.reduceSub, Nat.reduceGT, reduceIte, Int.reduceNeg, Int.reduceToNat] <;> (first | rfl | exact ⟨rfl, rfl⟩ | exact ⟨rfl, rfl, rfl⟩ | exact ⟨rfl, rfl, rfl, rfl⟩ | exact ⟨rfl, rfl, rfl, rfl, rfl⟩ | exact ⟨⟨rfl, rfl⟩, rfl⟩ | simp))
  intro j hj
  have hcl : (C ++ List.replicate j (0 : Int)).length = C.length + j := by simp
  by_cases hlt : C.length + j < M.length
  · have hpad := padC C j
    (repeat' (first | refine WP.seq ?_ | refine WP.block ?_ | ((first | refine WP.region ?_ | refine WP.condW ?_ | refine WP.ret ?_ | refine WP.exit ?_ | refine WP.skip ?_); simp only [go_sem, hcl, hpad, tyAll, Nat.reduceAdd, Nat.reduceLT, Nat.reduceLeDiff, Nat.reduceEqDiff, Nat.reduceMul, Nat.reduceSub, Nat.reduceGT, reduceIte, Int.reduceNeg, Int.reduceToNat]) | (refine WP.drawW 10 (by decide +kernel) (by kernel_rfl) ?_; simp only [go_sem, hcl, hpad, tyAll, Nat.reduceAdd, Nat.reduceLT, Nat.reduceLeDiff, Nat.reduceEqDiff, Nat.reduceMul, Nat.reduceSub, Nat.reduceGT, reduceIte, Int.reduceNeg, Int.reduceToNat]) |  refine And.intro ?_ ?_ | intro _))
    all_goals first | omega | exact rlI ‹_› | exact ⟨_, _, _, rfl⟩ | exact ⟨_, _, rfl, _, _, rfl, rfl⟩ | skip
    all_goals exact ⟨j + 1, by omega, by omega, by (first | rfl | exact ⟨rfl, rfl⟩ | exact ⟨rfl, rfl, rfl⟩ | exact ⟨rfl, rfl, rfl, rfl⟩ | exact ⟨rfl, rfl, rfl, rfl, rfl⟩ | exact ⟨⟨rfl, rfl⟩, rfl⟩ | simp)⟩
  · have hj2 : j = M.length - C.length := by omega
    have hk : at'.toNat < (C ++ List.replicate j (0 : Int)).length := by omega
    have h1 := rowAt_map encI (C ++ List.replicate j 0) at'.toNat hk
    have hb := padC_get (C := C) (m := j) (k := at'.toNat) (by omega) hpos
    have hg : (C ++ List.replicate j (0 : Int))[at'.toNat] = (C ++ List.replicate j 0).getD at'.toNat 0 := by rw [List.getD_eq_getElem?_getD, List.getElem?_eq_getElem hk]; rfl
    rw [hg] at h1
    have hset : addC C M.length at'.toNat n = (C ++ List.replicate j 0).set at'.toNat ((C ++ List.replicate j 0).getD at'.toNat 0 + n) := by rw [hj2]; rfl
    have hal := addC_len C M.length at'.toNat n
    rw [hset] at hy hal
    generalize (C ++ List.replicate j (0 : Int)).getD at'.toNat 0 = v at *
    have hse : ((C ++ List.replicate j 0).map encI).set at'.toNat [SV.v (.int .i64 (v + n))] = ((C ++ List.replicate j 0).set at'.toNat (v + n)).map encI := by rw [List.map_set]; rfl
    generalize (C ++ List.replicate j (0 : Int)).set at'.toNat (v + n) = D at *
    (repeat' (first | refine WP.seq ?_ | refine WP.block ?_ | ((first | refine WP.region ?_ | refine WP.condW ?_ | refine WP.ret ?_ | refine WP.exit ?_ | refine WP.skip ?_); simp only [go_sem, hcl, h1, hse, encI, tyAll, Nat.reduceAdd, Nat.reduceLT, Nat.reduceLeDiff, Nat.reduceEqDiff, Nat.reduceMul, Nat.reduceSub, Nat.reduceGT, reduceIte, Int.reduceNeg, Int.reduceToNat]) | (refine WP.drawW 10 (by decide +kernel) (by kernel_rfl) ?_; simp only [go_sem, hcl, h1, hse, encI, tyAll, Nat.reduceAdd, Nat.reduceLT, Nat.reduceLeDiff, Nat.reduceEqDiff, Nat.reduceMul, Nat.reduceSub, Nat.reduceGT, reduceIte, Int.reduceNeg, Int.reduceToNat]) |  refine And.intro ?_ ?_ | intro _))
    all_goals first | omega | (simp only; omega) | exact hin _ ‹_› | exact ⟨_, _, _, rfl⟩ | exact ⟨_, _, rfl, _, _, rfl, rfl⟩ | skip
    iterate 3
      · rename_i h8 hf
        have e : A = ((N, C), false) := by rw [hy, if_neg (by rw [hf]; simp)]
        subst e
        first | rfl | exact if_neg (by omega)
    iterate 3
      · rename_i h8 hf
        have e : A = ((M, D), true) := by rw [hy, if_pos hf]
        subst e
        first | rfl | exact if_neg (by omega)
end
section
noncomputable def cxAsI : Cx := { P := Tryz.prog, tys := tys, C := [(52, kPrOk), (53, k60), (174, kCopyPr), (175, kIntern)], hty := tysOk, hC := COk.cons cPrOkI (COk.cons c60 (COk.cons cCopyPrI (COk.cons cInternI (COk.nil _)))) }
theorem cxAsI_t : cxAsI.tys = tys := rfl
theorem cxAsI_c : cxAsI.C = [(52, kPrOk), (53, k60), (174, kCopyPr), (175, kIntern)] := rfl
attribute [local go_sem] cxAsI_t cxAsI_c kPrOk k60 kCopyPr kIntern
theorem cAddStackI : Cn Tryz.prog 146 kAddStack := by
  refine Cn.pur Tryz.func146 (by kernel_rfl) rfl fun d x hx => ?_
  obtain ⟨⟨N, C⟩, L, n⟩ := x
  obtain ⟨⟨hN, hs, hC⟩, hL⟩ := hx
  simp only at hN hs hC hL ⊢
  have hil := intern_len N L
  have hia := intern_at N L
  have hin := intern_names (B := 1099511627776) hs hL
  have hadd : profileOk N C = false ∨ n < 0 ∨ 1000000000000 < n ∨ (intern N L).2 < 0 → addStack N C L n = ((N, C), false) := addNo
  have hyes : profileOk N C = true → 0 ≤ n → n ≤ 1000000000000 → 0 ≤ (intern N L).2 → addStack N C L n = if profileOk (intern N L).1 (addC C (intern N L).1.length (intern N L).2.toNat n) = true then (((intern N L).1, addC C (intern N L).1.length (intern N L).2.toNat n), true) else ((N, C), false) := fun h1 h2 h3 h4 => by
    unfold addStack
    by_cases hp : profileOk (intern N L).1 (addC C (intern N L).1.length (intern N L).2.toNat n) = true
    · rw [if_pos hp, if_pos ⟨h1, h2, h3, h4, hp⟩]
    · rw [if_neg hp, if_neg fun hc => hp hc.2.2.2.2]
  generalize hI : intern N L = I at *
  obtain ⟨M, at'⟩ := I
  simp only at hil hia hin hadd hyes
  generalize hA : addStack N C L n = A at *
  refine Holds.go (c := cxAsI) Tryz.func146 rfl Tryz.results146 Tryz.ntmps146 (by omega) (by simp) rfl ?_
  intro X0 w0
  (repeat' (first | refine WP.seq ?_ | refine WP.block ?_ | ((first | refine WP.region ?_ | refine WP.condW ?_ | refine WP.ret ?_ | refine WP.exit ?_ | refine WP.skip ?_); simp only [go_sem, hI, tyAll, Nat.reduceAdd, Nat.reduceLT, Nat.reduceLeDiff, Nat.reduceEqDiff, Nat.reduceMul, Nat.reduceSub, Nat.reduceGT, reduceIte, Int.reduceNeg, Int.reduceToNat]) |  refine And.intro ?_ ?_ | intro _))
  all_goals first | omega | (simp only; omega) | exact hs _ ‹_› | exact hL _ ‹_› | exact ⟨_, _, _, rfl⟩ | exact ⟨_, _, rfl, _, _, rfl, rfl⟩ | skip
  iterate 3
    · rename_i h
      have e := hadd (h.elim .inl fun h => .inr (h.elim .inl fun h => .inr (.inl h)))
      subst e
      first | rfl | exact if_neg (by omega)
  iterate 3
    · rename_i h1 h
      have e := hadd (.inr (.inr (.inr h)))
      subst e
      first | rfl | exact if_neg (by omega)
  rename_i h h0
  obtain ⟨hpo, hn0, hn1⟩ := h
  have hy := hyes hpo hn0 hn1 (by omega)
  obtain ⟨_, hlen, hcnt⟩ := profileOk_iff.1 hpo
  have hpos : ∀ x ∈ C, 0 ≤ x ∧ x ≤ 1000000000000 := fun x hx => by
    obtain ⟨j, hj, rfl⟩ := List.mem_iff_getElem.1 hx
    have h1 := cntOk_at hcnt j hj
    have h2 := profileOk_sum hpo j (by omega)
    omega
  refine WP.loop (fun j : Nat => ⟨[(2, .v (.int .i64 n)), (3, .ptr 3 0 0 0), (6, .ptr 6 0 0 0), (8, .ptr 8 0 0 0), (9, .ptr 9 0 0 0), (10, .v (.int .i64 at'))],
    [(3, .box 35 [.sl 3 (N.map encNode), .sl 1 (C.map encI)]), (6, .box 35 [.v (.slice none 0 0), .v (.slice none 0 0)]), (8, .box 35 [.own 27, .own 1022]), (9, .box 33 [.own 27]), (27, .sl 130 3 (M.map encNode)), (1022, .sl 3 1 ((C ++ List.replicate j 0).map encI))]⟩)
    (fun j => C.length + j ≤ M.length) (fun j => M.length - j) 0 (by omega) ?_ ?_
  · have e0 : C ++ List.replicate 0 0 = C := by simp
    (simp only [go_sem, e0, tyAll, Nat.reduceAdd, Nat.reduceLT, Nat.reduceLeDiff, Nat.reduceEqDiff, Nat.reduceMul, Nat.reduceSub, Nat.reduceGT, reduceIte, Int.reduceNeg, Int.reduceToNat] <;> (first | rfl | exact ⟨rfl, rfl⟩ | exact ⟨rfl, rfl, rfl⟩ | exact ⟨rfl, rfl, rfl, rfl⟩ | exact ⟨rfl, rfl, rfl, rfl, rfl⟩ | exact ⟨⟨rfl, rfl⟩, rfl⟩ | simp))
  intro j hj
  have hcl : (C ++ List.replicate j (0 : Int)).length = C.length + j := by simp
  by_cases hlt : C.length + j < M.length
  · have hpad := padC C j
    (repeat' (first | refine WP.seq ?_ | refine WP.block ?_ | ((first | refine WP.region ?_ | refine WP.condW ?_ | refine WP.ret ?_ | refine WP.exit ?_ | refine WP.skip ?_); simp only [go_sem, hcl, hpad, tyAll, Nat.reduceAdd, Nat.reduceLT, Nat.reduceLeDiff, Nat.reduceEqDiff, Nat.reduceMul, Nat.reduceSub, Nat.reduceGT, reduceIte, Int.reduceNeg, Int.reduceToNat]) |  refine And.intro ?_ ?_ | intro _))
    all_goals first | omega | exact rlI ‹_› | exact ⟨_, _, _, rfl⟩ | exact ⟨_, _, rfl, _, _, rfl, rfl⟩ | skip
    all_goals exact ⟨j + 1, by omega, by omega, by (first | rfl | exact ⟨rfl, rfl⟩ | exact ⟨rfl, rfl, rfl⟩ | exact ⟨rfl, rfl, rfl, rfl⟩ | exact ⟨rfl, rfl, rfl, rfl, rfl⟩ | exact ⟨⟨rfl, rfl⟩, rfl⟩ | simp)⟩
  · have hj2 : j = M.length - C.length := by omega
    have hk : at'.toNat < (C ++ List.replicate j (0 : Int)).length := by omega
    have h1 := rowAt_map encI (C ++ List.replicate j 0) at'.toNat hk
    have hb := padC_get (C := C) (m := j) (k := at'.toNat) (by omega) hpos
    have hg : (C ++ List.replicate j (0 : Int))[at'.toNat] = (C ++ List.replicate j 0).getD at'.toNat 0 := by rw [List.getD_eq_getElem?_getD, List.getElem?_eq_getElem hk]; rfl
    rw [hg] at h1
    have hset : addC C M.length at'.toNat n = (C ++ List.replicate j 0).set at'.toNat ((C ++ List.replicate j 0).getD at'.toNat 0 + n) := by rw [hj2]; rfl
    have hal := addC_len C M.length at'.toNat n
    rw [hset] at hy hal
    generalize (C ++ List.replicate j (0 : Int)).getD at'.toNat 0 = v at *
    have hse : ((C ++ List.replicate j 0).map encI).set at'.toNat [SV.v (.int .i64 (v + n))] = ((C ++ List.replicate j 0).set at'.toNat (v + n)).map encI := by rw [List.map_set]; rfl
    generalize (C ++ List.replicate j (0 : Int)).set at'.toNat (v + n) = D at *
    (repeat' (first | refine WP.seq ?_ | refine WP.block ?_ | ((first | refine WP.region ?_ | refine WP.condW ?_ | refine WP.ret ?_ | refine WP.exit ?_ | refine WP.skip ?_); simp only [go_sem, hcl, h1, hse, encI, tyAll, Nat.reduceAdd, Nat.reduceLT, Nat.reduceLeDiff, Nat.reduceEqDiff, Nat.reduceMul, Nat.reduceSub, Nat.reduceGT, reduceIte, Int.reduceNeg, Int.reduceToNat]) |  refine And.intro ?_ ?_ | intro _))
    all_goals first | omega | (simp only; omega) | exact hin _ ‹_› | exact ⟨_, _, _, rfl⟩ | exact ⟨_, _, rfl, _, _, rfl, rfl⟩ | skip
    iterate 3
      · rename_i h8 hf
        have e : A = ((N, C), false) := by rw [hy, if_neg (by rw [hf]; simp)]
        subst e
        first | rfl | exact if_neg (by omega)
    iterate 3
      · rename_i h8 hf
        have e : A = ((M, D), true) := by rw [hy, if_pos hf]
        subst e
        first | rfl | exact if_neg (by omega)
end
end Go.Proofs.YtolnapfgfdgifaaGreatDoor

/-
  DERIVED. The library's contracts, laid at this program: tables of numbers. Printed by the kit's tools (lay.py).
-/
namespace Go.Proofs
open Go.Shelf
def Tryz.l106_ren : Go.Shelf.Ren := ⟨fun | 106 => 76 | 213 => 115 | 265 => 142 | n => n, fun | 9 => 9 | 3 => 3 | n => n, fun | n => n⟩
theorem Tryz.l106 : Go.Proofs.Lays.n106 Tryz.prog Tryz.l106_ren := {
  mixed := by kernel_rfl
  f106 := Tryz.func76.trans (congrArg some (by kernel_rfl))
  f213 := Tryz.func115.trans (congrArg some (by kernel_rfl))
  f265 := Tryz.func142.trans (congrArg some (by kernel_rfl))
  t3 := Tryz.underlying3
  a3 := Tryz.isAgg3
  z3 := Tryz.sizeOf3
  v3 := Tryz.zeroValue3
  t9 := Tryz.underlying9
  a9 := Tryz.isAgg9
  z9 := Tryz.sizeOf9
  v9 := Tryz.zeroValue9 }
def Tryz.lM145_ren : Go.Shelf.Ren := ⟨fun | 145 => 101 | 220 => 130 | 219 => 165 | 217 => 185 | 225 => 186 | 224 => 187 | 267 => 188 | 266 => 197 | 314 => 198 | n => n, fun | 9 => 9 | 4 => 4 | 59 => 109 | 3 => 3 | 5 => 5 | 46 => 122 | 146 => 193 | 51 => 144 | n => n, fun | 1 => 0 | n => n⟩
theorem Tryz.lM145 : Go.Proofs.LaysM.n145 Tryz.prog Tryz.lM145_ren := {
  mixed := by kernel_rfl
  f145 := Tryz.func101.trans (congrArg some (by kernel_rfl))
  f217 := Tryz.func185.trans (congrArg some (by kernel_rfl))
  f219 := Tryz.func165.trans (congrArg some (by kernel_rfl))
  f220 := Tryz.func130.trans (congrArg some (by kernel_rfl))
  f224 := Tryz.func187.trans (congrArg some (by kernel_rfl))
  f225 := Tryz.func186.trans (congrArg some (by kernel_rfl))
  f266 := Tryz.func197.trans (congrArg some (by kernel_rfl))
  f267 := Tryz.func188.trans (congrArg some (by kernel_rfl))
  f314 := Tryz.func198.trans (congrArg some (by kernel_rfl))
  t3 := Tryz.underlying3
  a3 := Tryz.isAgg3
  z3 := Tryz.sizeOf3
  v3 := Tryz.zeroValue3
  t4 := Tryz.underlying4
  a4 := Tryz.isAgg4
  z4 := Tryz.sizeOf4
  v4 := Tryz.zeroValue4
  t5 := Tryz.underlying5
  a5 := Tryz.isAgg5
  z5 := Tryz.sizeOf5
  v5 := Tryz.zeroValue5
  t9 := Tryz.underlying9
  a9 := Tryz.isAgg9
  z9 := Tryz.sizeOf9
  v9 := Tryz.zeroValue9
  t46 := Tryz.underlying122
  a46 := Tryz.isAgg122
  z46 := Tryz.sizeOf122
  v46 := Tryz.zeroValue122
  t51 := Tryz.underlying144
  a51 := Tryz.isAgg144
  z51 := Tryz.sizeOf144
  v51 := Tryz.zeroValue144
  t59 := Tryz.underlying109
  a59 := Tryz.isAgg109
  z59 := Tryz.sizeOf109
  v59 := Tryz.zeroValue109
  t146 := Tryz.underlying193
  a146 := Tryz.isAgg193
  z146 := Tryz.sizeOf193
  v146 := Tryz.zeroValue193
  g1 := by kernel_rfl
  i3 := by kernel_rfl
  i4 := by kernel_rfl
  i5 := by kernel_rfl
  i9 := by kernel_rfl
  i46 := by kernel_rfl
  i51 := by kernel_rfl
  i59 := by kernel_rfl
  i146 := by kernel_rfl
  m1 := by kernel_rfl
  s1_3 := fun w h => Go.Proofs.cell_of_shapedOpen_int (zero := #[.int .i64 0]) (t := 3) h (of_decide_eq_true (by kernel_rfl)) (by kernel_rfl) rfl (by kernel_rfl) (by kernel_rfl) Tryz.underlying3 }
def Tryz.lM146_ren : Go.Shelf.Ren := ⟨fun | 146 => 100 | 221 => 129 | 268 => 162 | 138 => 163 | 143 => 164 | 195 => 182 | 197 => 183 | 218 => 184 | 219 => 165 | 260 => 196 | 217 => 185 | 225 => 186 | 224 => 187 | 267 => 188 | 266 => 197 | 314 => 198 | n => n, fun | 9 => 9 | 31 => 83 | 3 => 3 | 4 => 4 | 0 => 0 | 105 => 181 | 21 => 21 | 5 => 5 | 46 => 122 | 119 => 199 | 139 => 202 | 138 => 201 | 146 => 193 | 51 => 144 | n => n, fun | 1 => 0 | 3 => 1 | 4 => 2 | n => n⟩
theorem Tryz.lM146 : Go.Proofs.LaysM.n146 Tryz.prog Tryz.lM146_ren := {
  mixed := by kernel_rfl
  f138 := Tryz.func163.trans (congrArg some (by kernel_rfl))
  f143 := Tryz.func164.trans (congrArg some (by kernel_rfl))
  f146 := Tryz.func100.trans (congrArg some (by kernel_rfl))
  f195 := Tryz.func182.trans (congrArg some (by kernel_rfl))
  f197 := Tryz.func183.trans (congrArg some (by kernel_rfl))
  f217 := Tryz.func185.trans (congrArg some (by kernel_rfl))
  f218 := Tryz.func184.trans (congrArg some (by kernel_rfl))
  f219 := Tryz.func165.trans (congrArg some (by kernel_rfl))
  f221 := Tryz.func129.trans (congrArg some (by kernel_rfl))
  f224 := Tryz.func187.trans (congrArg some (by kernel_rfl))
  f225 := Tryz.func186.trans (congrArg some (by kernel_rfl))
  f260 := Tryz.func196.trans (congrArg some (by kernel_rfl))
  f266 := Tryz.func197.trans (congrArg some (by kernel_rfl))
  f267 := Tryz.func188.trans (congrArg some (by kernel_rfl))
  f268 := Tryz.func162.trans (congrArg some (by kernel_rfl))
  f314 := Tryz.func198.trans (congrArg some (by kernel_rfl))
  t0 := Tryz.underlying0
  a0 := Tryz.isAgg0
  z0 := Tryz.sizeOf0
  v0 := Tryz.zeroValue0
  t3 := Tryz.underlying3
  a3 := Tryz.isAgg3
  z3 := Tryz.sizeOf3
  v3 := Tryz.zeroValue3
  t4 := Tryz.underlying4
  a4 := Tryz.isAgg4
  z4 := Tryz.sizeOf4
  v4 := Tryz.zeroValue4
  t5 := Tryz.underlying5
  a5 := Tryz.isAgg5
  z5 := Tryz.sizeOf5
  v5 := Tryz.zeroValue5
  t9 := Tryz.underlying9
  a9 := Tryz.isAgg9
  z9 := Tryz.sizeOf9
  v9 := Tryz.zeroValue9
  t21 := Tryz.underlying21
  a21 := Tryz.isAgg21
  z21 := Tryz.sizeOf21
  v21 := Tryz.zeroValue21
  t31 := Tryz.underlying83
  a31 := Tryz.isAgg83
  z31 := Tryz.sizeOf83
  v31 := Tryz.zeroValue83
  t46 := Tryz.underlying122
  a46 := Tryz.isAgg122
  z46 := Tryz.sizeOf122
  v46 := Tryz.zeroValue122
  t51 := Tryz.underlying144
  a51 := Tryz.isAgg144
  z51 := Tryz.sizeOf144
  v51 := Tryz.zeroValue144
  t105 := Tryz.underlying181
  a105 := Tryz.isAgg181
  z105 := Tryz.sizeOf181
  v105 := Tryz.zeroValue181
  t119 := Tryz.underlying199
  a119 := Tryz.isAgg199
  z119 := Tryz.sizeOf199
  t138 := Tryz.underlying201
  a138 := Tryz.isAgg201
  z138 := Tryz.sizeOf201
  v138 := Tryz.zeroValue201
  t139 := Tryz.underlying202
  a139 := Tryz.isAgg202
  z139 := Tryz.sizeOf202
  v139 := Tryz.zeroValue202
  t146 := Tryz.underlying193
  a146 := Tryz.isAgg193
  z146 := Tryz.sizeOf193
  v146 := Tryz.zeroValue193
  g1 := by kernel_rfl
  g3 := by kernel_rfl
  g4 := by kernel_rfl
  i0 := by kernel_rfl
  i3 := by kernel_rfl
  i4 := by kernel_rfl
  i5 := by kernel_rfl
  i9 := by kernel_rfl
  i21 := by kernel_rfl
  i31 := by kernel_rfl
  i46 := by kernel_rfl
  i51 := by kernel_rfl
  i105 := by kernel_rfl
  i138 := by kernel_rfl
  i139 := by kernel_rfl
  i146 := by kernel_rfl
  m1 := by kernel_rfl
  s1_3 := fun w h => Go.Proofs.cell_of_shapedOpen_int (zero := #[.int .i64 0]) (t := 3) h (of_decide_eq_true (by kernel_rfl)) (by kernel_rfl) rfl (by kernel_rfl) (by kernel_rfl) Tryz.underlying3
  m3 := by kernel_rfl
  m4 := by kernel_rfl }
def Tryz.lM171_ren : Go.Shelf.Ren := ⟨fun | 171 => 150 | 243 => 176 | 246 => 192 | 283 => 199 | 284 => 200 | 285 => 201 | 286 => 202 | 129 => 141 | 317 => 203 | 318 => 204 | 319 => 205 | 320 => 206 | 337 => 207 | 338 => 208 | n => n, fun | 3 => 3 | 9 => 9 | 2 => 2 | 4 => 4 | 171 => 195 | 0 => 0 | 53 => 146 | 37 => 117 | 5 => 5 | 173 => 197 | 212 => 204 | 51 => 144 | 20 => 20 | 213 => 205 | 46 => 122 | 232 => 207 | 233 => 208 | n => n, fun | 17 => 3 | 18 => 4 | 19 => 5 | n => n⟩
theorem Tryz.lM171 : Go.Proofs.LaysM.n171 Tryz.prog Tryz.lM171_ren := {
  mixed := by kernel_rfl
  f129 := Tryz.func141.trans (congrArg some (by kernel_rfl))
  f171 := Tryz.func150.trans (congrArg some (by kernel_rfl))
  f243 := Tryz.func176.trans (congrArg some (by kernel_rfl))
  f246 := Tryz.func192.trans (congrArg some (by kernel_rfl))
  f283 := Tryz.func199.trans (congrArg some (by kernel_rfl))
  f284 := Tryz.func200.trans (congrArg some (by kernel_rfl))
  f285 := Tryz.func201.trans (congrArg some (by kernel_rfl))
  f286 := Tryz.func202.trans (congrArg some (by kernel_rfl))
  f317 := Tryz.func203.trans (congrArg some (by kernel_rfl))
  f318 := Tryz.func204.trans (congrArg some (by kernel_rfl))
  f319 := Tryz.func205.trans (congrArg some (by kernel_rfl))
  f320 := Tryz.func206.trans (congrArg some (by kernel_rfl))
  f337 := Tryz.func207.trans (congrArg some (by kernel_rfl))
  f338 := Tryz.func208.trans (congrArg some (by kernel_rfl))
  t0 := Tryz.underlying0
  a0 := Tryz.isAgg0
  z0 := Tryz.sizeOf0
  v0 := Tryz.zeroValue0
  t2 := Tryz.underlying2
  a2 := Tryz.isAgg2
  z2 := Tryz.sizeOf2
  v2 := Tryz.zeroValue2
  t3 := Tryz.underlying3
  a3 := Tryz.isAgg3
  z3 := Tryz.sizeOf3
  v3 := Tryz.zeroValue3
  t4 := Tryz.underlying4
  a4 := Tryz.isAgg4
  z4 := Tryz.sizeOf4
  v4 := Tryz.zeroValue4
  t5 := Tryz.underlying5
  a5 := Tryz.isAgg5
  z5 := Tryz.sizeOf5
  v5 := Tryz.zeroValue5
  t9 := Tryz.underlying9
  a9 := Tryz.isAgg9
  z9 := Tryz.sizeOf9
  v9 := Tryz.zeroValue9
  t20 := Tryz.underlying20
  a20 := Tryz.isAgg20
  z20 := Tryz.sizeOf20
  v20 := Tryz.zeroValue20
  t37 := Tryz.underlying117
  a37 := Tryz.isAgg117
  z37 := Tryz.sizeOf117
  v37 := Tryz.zeroValue117
  t46 := Tryz.underlying122
  a46 := Tryz.isAgg122
  z46 := Tryz.sizeOf122
  v46 := Tryz.zeroValue122
  t51 := Tryz.underlying144
  a51 := Tryz.isAgg144
  z51 := Tryz.sizeOf144
  v51 := Tryz.zeroValue144
  t53 := Tryz.underlying146
  a53 := Tryz.isAgg146
  z53 := Tryz.sizeOf146
  v53 := Tryz.zeroValue146
  t171 := Tryz.underlying195
  a171 := Tryz.isAgg195
  z171 := Tryz.sizeOf195
  v171 := Tryz.zeroValue195
  t173 := Tryz.underlying197
  a173 := Tryz.isAgg197
  z173 := Tryz.sizeOf197
  v173 := Tryz.zeroValue197
  t212 := Tryz.underlying204
  a212 := Tryz.isAgg204
  z212 := Tryz.sizeOf204
  v212 := Tryz.zeroValue204
  t213 := Tryz.underlying205
  a213 := Tryz.isAgg205
  z213 := Tryz.sizeOf205
  t232 := Tryz.underlying207
  a232 := Tryz.isAgg207
  z232 := Tryz.sizeOf207
  v232 := Tryz.zeroValue207
  t233 := Tryz.underlying208
  a233 := Tryz.isAgg208
  z233 := Tryz.sizeOf208
  v233 := Tryz.zeroValue208
  g17 := by kernel_rfl
  g18 := by kernel_rfl
  g19 := by kernel_rfl
  i0 := by kernel_rfl
  i2 := by kernel_rfl
  i3 := by kernel_rfl
  i4 := by kernel_rfl
  i5 := by kernel_rfl
  i9 := by kernel_rfl
  i20 := by kernel_rfl
  i37 := by kernel_rfl
  i46 := by kernel_rfl
  i51 := by kernel_rfl
  i53 := by kernel_rfl
  i171 := by kernel_rfl
  i173 := by kernel_rfl
  i212 := by kernel_rfl
  i232 := by kernel_rfl
  i233 := by kernel_rfl
  m17 := by kernel_rfl
  m18 := by kernel_rfl
  m19 := by kernel_rfl }
def Tryz.l156_ren : Go.Shelf.Ren := ⟨fun | 156 => 127 | 165 => 151 | 166 => 152 | 169 => 153 | 240 => 177 | 241 => 178 | 276 => 193 | 277 => 194 | n => n, fun | 31 => 83 | 9 => 9 | 3 => 3 | 4 => 4 | 0 => 0 | 20 => 20 | 72 => 155 | 76 => 159 | 70 => 153 | 37 => 117 | 75 => 158 | 127 => 177 | 164 => 189 | 5 => 5 | 80 => 161 | n => n, fun | n => n⟩
theorem Tryz.l156 : Go.Proofs.Lays.n156 Tryz.prog Tryz.l156_ren := {
  mixed := by kernel_rfl
  f156 := Tryz.func127.trans (congrArg some (by kernel_rfl))
  f165 := Tryz.func151.trans (congrArg some (by kernel_rfl))
  f166 := Tryz.func152.trans (congrArg some (by kernel_rfl))
  f169 := Tryz.func153.trans (congrArg some (by kernel_rfl))
  f240 := Tryz.func177.trans (congrArg some (by kernel_rfl))
  f241 := Tryz.func178.trans (congrArg some (by kernel_rfl))
  f276 := Tryz.func193.trans (congrArg some (by kernel_rfl))
  f277 := Tryz.func194.trans (congrArg some (by kernel_rfl))
  t0 := Tryz.underlying0
  a0 := Tryz.isAgg0
  z0 := Tryz.sizeOf0
  v0 := Tryz.zeroValue0
  t3 := Tryz.underlying3
  a3 := Tryz.isAgg3
  z3 := Tryz.sizeOf3
  v3 := Tryz.zeroValue3
  t4 := Tryz.underlying4
  a4 := Tryz.isAgg4
  z4 := Tryz.sizeOf4
  v4 := Tryz.zeroValue4
  t9 := Tryz.underlying9
  a9 := Tryz.isAgg9
  z9 := Tryz.sizeOf9
  v9 := Tryz.zeroValue9
  t20 := Tryz.underlying20
  a20 := Tryz.isAgg20
  z20 := Tryz.sizeOf20
  v20 := Tryz.zeroValue20
  t31 := Tryz.underlying83
  a31 := Tryz.isAgg83
  z31 := Tryz.sizeOf83
  v31 := Tryz.zeroValue83
  t37 := Tryz.underlying117
  a37 := Tryz.isAgg117
  z37 := Tryz.sizeOf117
  v37 := Tryz.zeroValue117
  t70 := Tryz.underlying153
  a70 := Tryz.isAgg153
  z70 := Tryz.sizeOf153
  v70 := Tryz.zeroValue153
  t72 := Tryz.underlying155
  a72 := Tryz.isAgg155
  z72 := Tryz.sizeOf155
  v72 := Tryz.zeroValue155
  t75 := Tryz.underlying158
  a75 := Tryz.isAgg158
  z75 := Tryz.sizeOf158
  v75 := Tryz.zeroValue158
  t76 := Tryz.underlying159
  a76 := Tryz.isAgg159
  z76 := Tryz.sizeOf159
  v76 := Tryz.zeroValue159
  t127 := Tryz.underlying177
  a127 := Tryz.isAgg177
  z127 := Tryz.sizeOf177
  v127 := Tryz.zeroValue177
  t164 := Tryz.underlying189
  a164 := Tryz.isAgg189
  z164 := Tryz.sizeOf189
  v164 := Tryz.zeroValue189 }
end Go.Proofs

/-
  DERIVED. Plain lists: the library's words for cutting texts, as this claim's.
-/
namespace Go.Proofs.YtolnapfgfdgifaaGreatDoor
set_option linter.unusedVariables false

theorem index_no (c : UInt8) : ∀ {l : List UInt8}, c ∉ l → Lib.index l [c] = -1
  | [], _ => rfl
  | b :: l, h => by
    simp only [List.mem_cons, not_or] at h
    unfold Lib.index
    rw [index_no c h.2, if_neg (by simp [List.isPrefixOf]; exact h.1)]
    rfl
theorem index_at (c : UInt8) : ∀ {x : List UInt8} (r : List UInt8), c ∉ x → Lib.index (x ++ c :: r) [c] = x.length
  | [], r, _ => by simp [Lib.index, List.isPrefixOf]
  | b :: x, r, h => by
    simp only [List.mem_cons, not_or] at h
    rw [List.cons_append]
    unfold Lib.index
    rw [index_at c r h.2, if_neg (by simp [List.isPrefixOf]; exact h.1), if_neg (by simp; try omega)]
    simp
theorem cut_first (c : UInt8) : ∀ l : List UInt8, c ∉ l ∨ ∃ x r, l = x ++ c :: r ∧ c ∉ x
  | [] => .inl (by simp)
  | b :: l => by
    by_cases hb : b = c
    · exact .inr ⟨[], l, by rw [hb]; rfl, by simp⟩
    · rcases cut_first c l with h | ⟨x, r, h1, h2⟩
      · exact .inl (by simp only [List.mem_cons, not_or]; exact ⟨fun e => hb e.symm, h⟩)
      · exact .inr ⟨b :: x, r, by rw [h1]; rfl, by simp only [List.mem_cons, not_or]; exact ⟨fun e => hb e.symm, h2⟩⟩
theorem libcut_no (c : UInt8) {l : List UInt8} (h : c ∉ l) : Lib.cut l [c] = (l, [], false) := by
  unfold Lib.cut
  rw [index_no c h, if_neg (by omega)]
theorem libcut_at (c : UInt8) {x : List UInt8} (r : List UInt8) (h : c ∉ x) : Lib.cut (x ++ c :: r) [c] = (x, r, true) := by
  unfold Lib.cut
  rw [index_at c r h, if_pos (by omega), Int.toNat_natCast]
  simp
def one1 (c : UInt8) : ByteArray := ⟨#[c]⟩
theorem bts_ext (s : ByteArray) (l : List UInt8) (h : s.data.toList = l) : s = bts l := by rw [← h, bts_list]
theorem splitB_cut (c : UInt8) : ∀ (n : Nat) (s : ByteArray), s.size ≤ n → Lib.splitB (one1 c) 0 (Lib.countB s (one1 c)) s = (cutL c s.data.toList).map bts := by
  intro n
  induction n with
  | zero =>
    intro s hs
    have he : s.data.toList = [] := by apply List.eq_nil_of_length_eq_zero; have : s.data.toList.length = s.size := by simp
                                       omega
    have hi : Lib.indexB s (one1 c) = -1 := by unfold Lib.indexB; rw [he]; rfl
    rw [Lib.countB_miss s _ hi, Lib.splitB_zero, he]
    simp only [cutL, List.map_cons, List.map_nil]
    rw [bts_ext s [] he]
  | succ n ih =>
    intro s hs
    rcases cut_first c s.data.toList with h | ⟨x, r, h1, h2⟩
    · have hi : Lib.indexB s (one1 c) = -1 := index_no c h
      rw [Lib.countB_miss s _ hi, Lib.splitB_zero, cutL_plain c h, List.map_cons, List.map_nil, bts_list]
    · have hi : Lib.indexB s (one1 c) = (x.length : Nat) := by
        unfold Lib.indexB
        rw [h1]; exact index_at c r h2
      have hsz : s.size = x.length + 1 + r.length := by
        have : s.data.toList.length = s.size := by simp
        rw [← this, h1]; simp; omega
      have e1 : (one1 c).size = 1 := rfl
      have hr : s.extract (x.length + 1) s.size = bts r := by
        apply bts_ext
        rw [ByteArray.data_extract, Array.toList_extract, h1, hsz]
        simp [List.extract]
      have hx : s.extract 0 (x.length + 0) = bts x := by
        apply bts_ext
        rw [ByteArray.data_extract, Array.toList_extract, h1]
        simp [List.extract]
      rw [Lib.countB_hit s _ x.length (by rw [e1]; omega) hi, Nat.add_comm 1, Lib.splitB_hit _ _ _ _ _ hi, e1, hr, hx, ih (bts r) (by rw [bts_size]; omega), h1, cutL_app c r h2]
      simp [bts]
theorem splitB_len (c : UInt8) (s : ByteArray) : (cutL c s.data.toList).length = Lib.countB s (one1 c) + 1 := by
  have h1 := splitB_cut c s.size s (Nat.le_refl _)
  have h2 := Lib.splitB_all (one1 c) (Nat.le_refl 1) 0 _ s rfl
  rw [h1, List.length_map] at h2
  exact h2
theorem decDigits_fmtL : ∀ (n k : Nat), k ≤ n → Lib.decDigits k = fmtL k
  | 0, k, h => by
    have : k = 0 := by omega
    subst this
    rw [Lib.decDigits, dif_pos (by omega)]; rfl
  | n + 1, k, h => by
    rw [Lib.decDigits]
    unfold fmtL
    split
    · rename_i h10
      split
      · rename_i h0; subst h0; rfl
      · rename_i h0
        rw [decB_pos k (by omega), show k / 10 = 0 by omega, show k % 10 = k by omega]
        simp [decB]
    · rename_i h10
      rw [if_neg (by omega), decB_pos k (by omega), decDigits_fmtL n (k / 10) (by omega)]
      unfold fmtL
      rw [if_neg (by omega)]
theorem itoa_fmtL (n : Int) (h : 0 ≤ n) : (⟨(Lib.itoa n).toArray⟩ : ByteArray) = bts (fmtL n.toNat) := by
  unfold Lib.itoa
  rw [if_neg (by omega), decDigits_fmtL n.toNat n.toNat (Nat.le_refl _)]
  rfl
theorem cutL_len (c : UInt8) : ∀ l : List UInt8, (cutL c l).length ≤ l.length + 1
  | [] => by simp [cutL]
  | b :: l => by
    have ih := cutL_len c l
    unfold cutL
    split
    · simp only [List.length_cons]; omega
    · split
      · simp
      · rename_i x xs h; rw [h] at ih; simp only [List.length_cons] at ih ⊢; omega
theorem cutL_mem (c : UInt8) : ∀ {l x : List UInt8}, x ∈ cutL c l → x.length ≤ l.length
  | [], x, h => by simp only [cutL, List.mem_cons, List.not_mem_nil, or_false] at h; subst h; simp
  | b :: l, x, h => by
    unfold cutL at h
    split at h
    · rcases List.mem_cons.1 h with rfl | h
      · simp
      · have := cutL_mem c h; simp only [List.length_cons]; omega
    · split at h
      · simp only [List.mem_cons, List.not_mem_nil, or_false] at h; subst h; simp
      · rename_i y ys hy
        rcases List.mem_cons.1 h with rfl | h
        · have := cutL_mem c (l := l) (x := y) (by rw [hy]; simp)
          simp only [List.length_cons]; omega
        · have := cutL_mem c (l := l) (x := x) (by rw [hy]; simp [h])
          simp only [List.length_cons]; omega
/-- a part, by its first sign -/
theorem partF_cut (p : List UInt8) : partF p = Option.map (fun (v : Nat) => (⟨bts (Lib.cut p [58]).1, (v : Int)⟩ : Frame)) (parseU (bts (Lib.cut p [58]).2.1)) := by
  unfold partF
  rcases cut_first 58 p with h | ⟨x, r, h1, h2⟩
  · rw [cutL_plain 58 h, libcut_no 58 h]
    have : parseU (bts []) = none := by decide
    simp only [this, Option.map_none]
  · rw [h1, cutL_app 58 r h2, libcut_at 58 r h2]
    rcases cut_first 58 r with h | ⟨y, q, h3, h4⟩
    · rw [cutL_plain 58 h]
    · have hb : parseU (bts r) = none := by
        have hmem : (58 : UInt8) ∈ r := by rw [h3]; simp
        obtain ⟨i, hi, he⟩ := List.mem_iff_getElem.1 hmem
        have hi' : i < (bts r).size := by rw [bts_size]; exact hi
        refine parseU_bad hi' ?_
        have : (bts r)[i]! = 58 := by
          rw [getElem!_pos _ i hi', ← he]
          simp only [bts]
          rfl
        rw [this]; decide
      rw [hb, Option.map_none, h3, cutL_app 58 q h4]
      have := cutL_ne 58 q
      generalize cutL 58 q = z at this ⊢
      match z, this with
      | a :: z, _ => rfl
end Go.Proofs.YtolnapfgfdgifaaGreatDoor
