/-
  DERIVED. The struct TableRow: its cells, and what the law's helpers do with it. Printed by program (fam.py).
-/
import Derived.Test.YtkikcjomjofhmaaVtX
import Derived.Test.YtkikcjomjofhmaaVcR
namespace Go.Proofs.Ytkikcjomjofhmaa
open Go.Vc
set_option linter.unusedSimpArgs false
set_option linter.unusedVariables false
set_option maxHeartbeats 1000000
attribute [local go_sem] St.runR St.runW St.stepV St.step St.stepU St.stepG St.prK St.pr St.prLen St.eff St.callE St.callD St.callF St.callM aI aB aS aR aC St.isM St.argL Ctr.pure Ctr.m Ctr.wri pur Go.Vc.wri St.ev St.get St.put St.new St.kill SV.kill SV.kill1 Ob.kill St.app St.wrt St.rowsOf St.res St.killL lk er argsL SV.strip SV.need SV.share SV.share1 SV.owns SV.owns1 SV.owns2 SV.good SV.good1 SV.rok SV.rok1 SV.rok2 SV.isV SV.isV2 nodupN SV.cells SV.one SV.pur partsIn rowsIn splice cellsAt dstOk scal2 scal1 thenK blockK retK retM outK outs okC okL okA okT nilC nilL nilA nilT keepC keepL keepA keepT Go.Vc.cover tups SV.ofAgg St.out outC subL St.has rng wr Value.oneCell' Option.isSome_some Option.isSome_none List.nil_append Bool.false_eq_true List.map_cons List.map_nil List.all_cons List.all_nil List.length_cons List.length_nil List.drop_zero List.drop_succ_cons List.take_succ_cons List.take_zero List.drop_nil List.take_nil List.getElem?_cons_zero List.getElem?_cons_succ List.getElem?_nil List.cons_append List.nil_append List.append_nil List.append_assoc List.flatMap_cons List.flatMap_nil List.contains_cons List.contains_nil List.set_cons_zero List.set_cons_succ List.getElem?_toArray Option.getD_some Option.getD_none Option.map_some Option.map_none Option.bind_some Option.some.injEq Prod.mk.injEq if_true if_false true_and and_true and_self ne_eq not_true_eq_false not_false_eq_true decide_true decide_false List.mem_cons List.not_mem_nil or_false false_or true_or or_true forall_eq_or_imp forall_eq reduceCtorEq exists_eq exists_eq' exists_eq_left' exists_eq_left exists_eq_right exists_eq_right' imp_self implies_true Bool.and_true Bool.true_and Bool.and_self beq_self_eq_true List.replicate_succ List.replicate_zero forall_const false_implies pickB_or pickB_and beqT beqF Int.toNat_natCast List.length_map List.length_replicate ge_iff_le gt_iff_lt decide_eq_true_eq decide_eq_false_iff_not Bool.and_eq_true Bool.or_eq_true Bool.not_eq_true' Bool.not_eq_false' condG List.toList_toArray Bool.or_eq_false_iff Bool.and_eq_false_iff Int.not_lt Int.not_le beq_iff_eq beq_eq_false_iff_ne bne_iff_ne bne_eq_false_iff_eq ne_eq Bool.not_true Bool.not_false exists_and_left
attribute [local irreducible] Go.Vc.WP
attribute [local go_sem] cx0_t cx0_c

structure TableRow where
  name : ByteArray
  self : Int
  total : Int
deriving DecidableEq
def encTableRow (x : TableRow) : List SV := [.v (.string x.name), .v (.int .i64 x.self), .v (.int .i64 x.total)]
def oneTableRow : List SV → TableRow
  | [.v (.string name), .v (.int _ self), .v (.int _ total)] => ⟨name, self, total⟩
  | _ => ⟨⟨#[]⟩, 0, 0⟩
def decTableRow (rows : List (List SV)) : List TableRow := rows.map oneTableRow
theorem oneTableRow_enc (x : TableRow) : oneTableRow (encTableRow x) = x := rfl
theorem decTableRow_enc (L : List TableRow) : decTableRow (L.map encTableRow) = L := by
  unfold decTableRow
  rw [List.map_map]
  exact List.map_id'' oneTableRow_enc L
theorem isV_TableRow {e s : Nat} (L : List TableRow) : (Ob.sl e s (L.map encTableRow)).isV ↔ True := iff_true_intro (by
  intro row hr c hc
  obtain ⟨n, _, rfl⟩ := List.mem_map.1 hr
  simp only [encTableRow, List.mem_cons, List.not_mem_nil, or_false] at hc
  rcases hc with rfl | rfl | rfl <;> exact ⟨_, rfl⟩)
def zerTableRow : List SV := [.v (.string ⟨#[]⟩), .v (.int .i64 0), .v (.int .i64 0)]

def ktoTableRow : Ctr := pur (fun args => oneTableRow (aC args 0)) (fun x => [.agg (encTableRow x)]) (fun _ => True) (fun _ x => .agg (encTableRow x)) (fun _ _ => [])
theorem ctoTableRow : Cn Try.prog 63 ktoTableRow := by
  refine Cn.pur Try.func63 (by kernel_rfl) rfl fun d x _ => ?_
  refine Holds.go (c := cx0) Try.func63 rfl Try.results63 Try.ntmps63 (by omega) (by simp) rfl ?_
  intro X0 w0
  unfold encTableRow
  (repeat' (first | refine WP.seq ?_ | (refine WP.region ?_; simp only [go_sem, tyAll, Nat.reduceAdd, Nat.reduceLT, Nat.reduceLeDiff, Nat.reduceEqDiff, Nat.reduceMul, Nat.reduceSub, Nat.reduceGT, reduceIte, Int.reduceNeg, Int.reduceToNat]) | refine WP.block ?_ | (refine WP.condW ?_; simp only [go_sem, tyAll, Nat.reduceAdd, Nat.reduceLT, Nat.reduceLeDiff, Nat.reduceEqDiff, Nat.reduceMul, Nat.reduceSub, Nat.reduceGT, reduceIte, Int.reduceNeg, Int.reduceToNat]) | (refine WP.ret ?_; simp only [go_sem, tyAll, Nat.reduceAdd, Nat.reduceLT, Nat.reduceLeDiff, Nat.reduceEqDiff, Nat.reduceMul, Nat.reduceSub, Nat.reduceGT, reduceIte, Int.reduceNeg, Int.reduceToNat]) | (refine WP.exit ?_; simp only [go_sem, tyAll, Nat.reduceAdd, Nat.reduceLT, Nat.reduceLeDiff, Nat.reduceEqDiff, Nat.reduceMul, Nat.reduceSub, Nat.reduceGT, reduceIte, Int.reduceNeg, Int.reduceToNat]) | (refine WP.skip ?_; simp only [go_sem, tyAll, Nat.reduceAdd, Nat.reduceLT, Nat.reduceLeDiff, Nat.reduceEqDiff, Nat.reduceMul, Nat.reduceSub, Nat.reduceGT, reduceIte, Int.reduceNeg, Int.reduceToNat]) |  refine And.intro ?_ ?_ | intro _))
  all_goals first | omega | exact ⟨_, _, rfl, _, _, rfl, rfl⟩ | skip

noncomputable def cxtoTableRow : Cx := { P := Try.prog, tys := tys, C := [(63, ktoTableRow)], hty := tysOk, hC := COk.cons ctoTableRow (COk.nil _) }
theorem cxtoTableRow_t : cxtoTableRow.tys = tys := rfl
theorem cxtoTableRow_c : cxtoTableRow.C = [(63, ktoTableRow)] := rfl
def ktoTableRowS : Ctr := pur (fun args => decTableRow (aR args 0)) (fun L => [.sl 3 (L.map encTableRow)]) (fun L => L.length ≤ 2097152) (fun d _ => .own d) (fun d L => [(d, .sl 86 3 (L.map encTableRow))])
section
attribute [local go_sem] cxtoTableRow_t cxtoTableRow_c ktoTableRow oneTableRow
theorem ctoTableRowS : Cn Try.prog 27 ktoTableRowS := by
  refine Cn.pur Try.func27 (by kernel_rfl) rfl fun d L hL => ?_
  refine Holds.go (c := cxtoTableRow) Try.func27 rfl Try.results27 Try.ntmps27 (by omega) (by simp) rfl ?_
  intro X0 w0
  (repeat' (first | refine WP.seq ?_ | (refine WP.region ?_; simp only [go_sem, tyAll, Nat.reduceAdd, Nat.reduceLT, Nat.reduceLeDiff, Nat.reduceEqDiff, Nat.reduceMul, Nat.reduceSub, Nat.reduceGT, reduceIte, Int.reduceNeg, Int.reduceToNat]) | refine WP.block ?_ | (refine WP.condW ?_; simp only [go_sem, tyAll, Nat.reduceAdd, Nat.reduceLT, Nat.reduceLeDiff, Nat.reduceEqDiff, Nat.reduceMul, Nat.reduceSub, Nat.reduceGT, reduceIte, Int.reduceNeg, Int.reduceToNat]) | (refine WP.ret ?_; simp only [go_sem, tyAll, Nat.reduceAdd, Nat.reduceLT, Nat.reduceLeDiff, Nat.reduceEqDiff, Nat.reduceMul, Nat.reduceSub, Nat.reduceGT, reduceIte, Int.reduceNeg, Int.reduceToNat]) | (refine WP.exit ?_; simp only [go_sem, tyAll, Nat.reduceAdd, Nat.reduceLT, Nat.reduceLeDiff, Nat.reduceEqDiff, Nat.reduceMul, Nat.reduceSub, Nat.reduceGT, reduceIte, Int.reduceNeg, Int.reduceToNat]) | (refine WP.skip ?_; simp only [go_sem, tyAll, Nat.reduceAdd, Nat.reduceLT, Nat.reduceLeDiff, Nat.reduceEqDiff, Nat.reduceMul, Nat.reduceSub, Nat.reduceGT, reduceIte, Int.reduceNeg, Int.reduceToNat]) |  refine And.intro ?_ ?_ | intro _))
  all_goals first | omega | skip
  refine WP.loop (fun k : Nat => ⟨[(0, .sl 3 (L.map encTableRow)), (3, .own 7), (4, .v (.int .i64 k))], [(7, .sl 86 3 (filled encTableRow zerTableRow L k))]⟩) (fun k => k ≤ L.length) (fun k => L.length - k) 0 (by omega) ?_ ?_
  · rw [filled_zero]; simp only [go_sem, tyAll, Nat.reduceAdd, Nat.reduceLT, Nat.reduceLeDiff, Nat.reduceEqDiff, Nat.reduceMul, Nat.reduceSub, Nat.reduceGT, reduceIte, Int.reduceNeg, Int.reduceToNat]; first | exact ⟨rfl, rfl⟩ | rfl
  intro k hk
  by_cases hlt : k < L.length
  · have h1 := rowAt_map encTableRow L k hlt
    have h2 := filled_len encTableRow zerTableRow L k hk
    have h3 : Go.Vc.rowAt (filled encTableRow zerTableRow L k) k = [.v (.string ⟨#[]⟩), .v (.int .i64 0), .v (.int .i64 0)] := filled_row encTableRow zerTableRow L k hlt
    have h4 := filled_set encTableRow zerTableRow L k hlt
    rw [encTableRow] at h4
    (repeat' (first | refine WP.seq ?_ | (refine WP.region ?_; simp only [go_sem, h1, h2, h3, h4, encTableRow, tyAll, Nat.reduceAdd, Nat.reduceLT, Nat.reduceLeDiff, Nat.reduceEqDiff, Nat.reduceMul, Nat.reduceSub, Nat.reduceGT, reduceIte, Int.reduceNeg, Int.reduceToNat]) | refine WP.block ?_ | (refine WP.condW ?_; simp only [go_sem, h1, h2, h3, h4, encTableRow, tyAll, Nat.reduceAdd, Nat.reduceLT, Nat.reduceLeDiff, Nat.reduceEqDiff, Nat.reduceMul, Nat.reduceSub, Nat.reduceGT, reduceIte, Int.reduceNeg, Int.reduceToNat]) | (refine WP.ret ?_; simp only [go_sem, h1, h2, h3, h4, encTableRow, tyAll, Nat.reduceAdd, Nat.reduceLT, Nat.reduceLeDiff, Nat.reduceEqDiff, Nat.reduceMul, Nat.reduceSub, Nat.reduceGT, reduceIte, Int.reduceNeg, Int.reduceToNat]) | (refine WP.exit ?_; simp only [go_sem, h1, h2, h3, h4, encTableRow, tyAll, Nat.reduceAdd, Nat.reduceLT, Nat.reduceLeDiff, Nat.reduceEqDiff, Nat.reduceMul, Nat.reduceSub, Nat.reduceGT, reduceIte, Int.reduceNeg, Int.reduceToNat]) | (refine WP.skip ?_; simp only [go_sem, h1, h2, h3, h4, encTableRow, tyAll, Nat.reduceAdd, Nat.reduceLT, Nat.reduceLeDiff, Nat.reduceEqDiff, Nat.reduceMul, Nat.reduceSub, Nat.reduceGT, reduceIte, Int.reduceNeg, Int.reduceToNat]) |  refine And.intro ?_ ?_ | intro _))
    all_goals first | omega | skip
    exact ⟨k + 1, by omega, by omega, rfl, rfl⟩
  · have h2 := filled_len encTableRow zerTableRow L k hk
    have h5 : filled encTableRow zerTableRow L k = L.map encTableRow := by rw [show k = L.length by omega]; exact filled_all _ _ _
    (repeat' (first | refine WP.seq ?_ | (refine WP.region ?_; simp only [go_sem, h2, h5, tyAll, Nat.reduceAdd, Nat.reduceLT, Nat.reduceLeDiff, Nat.reduceEqDiff, Nat.reduceMul, Nat.reduceSub, Nat.reduceGT, reduceIte, Int.reduceNeg, Int.reduceToNat]) | refine WP.block ?_ | (refine WP.condW ?_; simp only [go_sem, h2, h5, tyAll, Nat.reduceAdd, Nat.reduceLT, Nat.reduceLeDiff, Nat.reduceEqDiff, Nat.reduceMul, Nat.reduceSub, Nat.reduceGT, reduceIte, Int.reduceNeg, Int.reduceToNat]) | (refine WP.ret ?_; simp only [go_sem, h2, h5, tyAll, Nat.reduceAdd, Nat.reduceLT, Nat.reduceLeDiff, Nat.reduceEqDiff, Nat.reduceMul, Nat.reduceSub, Nat.reduceGT, reduceIte, Int.reduceNeg, Int.reduceToNat]) | (refine WP.exit ?_; simp only [go_sem, h2, h5, tyAll, Nat.reduceAdd, Nat.reduceLT, Nat.reduceLeDiff, Nat.reduceEqDiff, Nat.reduceMul, Nat.reduceSub, Nat.reduceGT, reduceIte, Int.reduceNeg, Int.reduceToNat]) | (refine WP.skip ?_; simp only [go_sem, h2, h5, tyAll, Nat.reduceAdd, Nat.reduceLT, Nat.reduceLeDiff, Nat.reduceEqDiff, Nat.reduceMul, Nat.reduceSub, Nat.reduceGT, reduceIte, Int.reduceNeg, Int.reduceToNat]) |  refine And.intro ?_ ?_ | intro _))
    all_goals first | omega | skip
end

def keqTableRow : Ctr := pur (fun args => (oneTableRow (aC args 0), oneTableRow (aC args 1))) (fun x => [.agg (encTableRow x.1), .agg (encTableRow x.2)]) (fun _ => True) (fun _ x => .v (.bool (decide (x.1 = x.2)))) (fun _ _ => [])
theorem ceqTableRow : Cn Try.prog 66 keqTableRow := by
  refine Cn.pur Try.func66 (by kernel_rfl) rfl fun d x _ => ?_
  obtain ⟨⟨a0, a1, a2⟩, ⟨b0, b1, b2⟩⟩ := x
  refine Holds.go (c := cx0) Try.func66 rfl Try.results66 Try.ntmps66 (by omega) (by simp) rfl ?_
  intro X0 w0
  simp only [encTableRow]
  (repeat' (first | refine WP.seq ?_ | (refine WP.region ?_; simp only [go_sem, tyAll, Nat.reduceAdd, Nat.reduceLT, Nat.reduceLeDiff, Nat.reduceEqDiff, Nat.reduceMul, Nat.reduceSub, Nat.reduceGT, reduceIte, Int.reduceNeg, Int.reduceToNat]) | refine WP.block ?_ | (refine WP.condW ?_; simp only [go_sem, tyAll, Nat.reduceAdd, Nat.reduceLT, Nat.reduceLeDiff, Nat.reduceEqDiff, Nat.reduceMul, Nat.reduceSub, Nat.reduceGT, reduceIte, Int.reduceNeg, Int.reduceToNat]) | (refine WP.ret ?_; simp only [go_sem, tyAll, Nat.reduceAdd, Nat.reduceLT, Nat.reduceLeDiff, Nat.reduceEqDiff, Nat.reduceMul, Nat.reduceSub, Nat.reduceGT, reduceIte, Int.reduceNeg, Int.reduceToNat]) | (refine WP.exit ?_; simp only [go_sem, tyAll, Nat.reduceAdd, Nat.reduceLT, Nat.reduceLeDiff, Nat.reduceEqDiff, Nat.reduceMul, Nat.reduceSub, Nat.reduceGT, reduceIte, Int.reduceNeg, Int.reduceToNat]) | (refine WP.skip ?_; simp only [go_sem, tyAll, Nat.reduceAdd, Nat.reduceLT, Nat.reduceLeDiff, Nat.reduceEqDiff, Nat.reduceMul, Nat.reduceSub, Nat.reduceGT, reduceIte, Int.reduceNeg, Int.reduceToNat]) |  refine And.intro ?_ ?_ | intro _))
  all_goals simp_all

noncomputable def cxeqTableRow : Cx := { P := Try.prog, tys := tys, C := [(66, keqTableRow)], hty := tysOk, hC := COk.cons ceqTableRow (COk.nil _) }
theorem cxeqTableRow_t : cxeqTableRow.tys = tys := rfl
theorem cxeqTableRow_c : cxeqTableRow.C = [(66, keqTableRow)] := rfl
def keqTableRowS : Ctr := pur (fun args => (decTableRow (aR args 0), decTableRow (aR args 1))) (fun x => [.sl 3 (x.1.map encTableRow), .sl 3 (x.2.map encTableRow)]) (fun x => x.1.length ≤ 2097152) (fun _ x => .v (.bool (decide (x.1 = x.2)))) (fun _ _ => [])
section
attribute [local go_sem] cxeqTableRow_t cxeqTableRow_c keqTableRow oneTableRow
theorem ceqTableRowS : Cn Try.prog 29 keqTableRowS := by
  refine Cn.pur Try.func29 (by kernel_rfl) rfl fun d x hL => ?_
  obtain ⟨L, M⟩ := x
  simp only at hL ⊢
  refine Holds.go (c := cxeqTableRow) Try.func29 rfl Try.results29 Try.ntmps29 (by omega) (by simp) rfl ?_
  intro X0 w0
  (repeat' (first | refine WP.seq ?_ | (refine WP.region ?_; simp only [go_sem, tyAll, Nat.reduceAdd, Nat.reduceLT, Nat.reduceLeDiff, Nat.reduceEqDiff, Nat.reduceMul, Nat.reduceSub, Nat.reduceGT, reduceIte, Int.reduceNeg, Int.reduceToNat]) | refine WP.block ?_ | (refine WP.condW ?_; simp only [go_sem, tyAll, Nat.reduceAdd, Nat.reduceLT, Nat.reduceLeDiff, Nat.reduceEqDiff, Nat.reduceMul, Nat.reduceSub, Nat.reduceGT, reduceIte, Int.reduceNeg, Int.reduceToNat]) | (refine WP.ret ?_; simp only [go_sem, tyAll, Nat.reduceAdd, Nat.reduceLT, Nat.reduceLeDiff, Nat.reduceEqDiff, Nat.reduceMul, Nat.reduceSub, Nat.reduceGT, reduceIte, Int.reduceNeg, Int.reduceToNat]) | (refine WP.exit ?_; simp only [go_sem, tyAll, Nat.reduceAdd, Nat.reduceLT, Nat.reduceLeDiff, Nat.reduceEqDiff, Nat.reduceMul, Nat.reduceSub, Nat.reduceGT, reduceIte, Int.reduceNeg, Int.reduceToNat]) | (refine WP.skip ?_; simp only [go_sem, tyAll, Nat.reduceAdd, Nat.reduceLT, Nat.reduceLeDiff, Nat.reduceEqDiff, Nat.reduceMul, Nat.reduceSub, Nat.reduceGT, reduceIte, Int.reduceNeg, Int.reduceToNat]) |  refine And.intro ?_ ?_ | intro _))
  · simp; intro h; subst h; simp_all
  have hlen : L.length = M.length := by omega
  refine WP.loop (fun k : Nat => ⟨[(0, .sl 3 (L.map encTableRow)), (1, .sl 3 (M.map encTableRow)), (5, .v (.int .i64 k))], []⟩) (fun k => k ≤ L.length ∧ L.take k = M.take k) (fun k => L.length - k) 0 (by simp) ?_ ?_
  · simp only [go_sem, tyAll, Nat.reduceAdd, Nat.reduceLT, Nat.reduceLeDiff, Nat.reduceEqDiff, Nat.reduceMul, Nat.reduceSub, Nat.reduceGT, reduceIte, Int.reduceNeg, Int.reduceToNat]; rfl
  intro k ⟨hk, ht⟩
  by_cases hlt : k < L.length
  · have h1 := rowAt_map encTableRow L k hlt
    have h2 := rowAt_map encTableRow M k (by omega)
    (repeat' (first | refine WP.seq ?_ | (refine WP.region ?_; simp only [go_sem, h1, h2, encTableRow, tyAll, Nat.reduceAdd, Nat.reduceLT, Nat.reduceLeDiff, Nat.reduceEqDiff, Nat.reduceMul, Nat.reduceSub, Nat.reduceGT, reduceIte, Int.reduceNeg, Int.reduceToNat]) | refine WP.block ?_ | (refine WP.condW ?_; simp only [go_sem, h1, h2, encTableRow, tyAll, Nat.reduceAdd, Nat.reduceLT, Nat.reduceLeDiff, Nat.reduceEqDiff, Nat.reduceMul, Nat.reduceSub, Nat.reduceGT, reduceIte, Int.reduceNeg, Int.reduceToNat]) | (refine WP.ret ?_; simp only [go_sem, h1, h2, encTableRow, tyAll, Nat.reduceAdd, Nat.reduceLT, Nat.reduceLeDiff, Nat.reduceEqDiff, Nat.reduceMul, Nat.reduceSub, Nat.reduceGT, reduceIte, Int.reduceNeg, Int.reduceToNat]) | (refine WP.exit ?_; simp only [go_sem, h1, h2, encTableRow, tyAll, Nat.reduceAdd, Nat.reduceLT, Nat.reduceLeDiff, Nat.reduceEqDiff, Nat.reduceMul, Nat.reduceSub, Nat.reduceGT, reduceIte, Int.reduceNeg, Int.reduceToNat]) | (refine WP.skip ?_; simp only [go_sem, h1, h2, encTableRow, tyAll, Nat.reduceAdd, Nat.reduceLT, Nat.reduceLeDiff, Nat.reduceEqDiff, Nat.reduceMul, Nat.reduceSub, Nat.reduceGT, reduceIte, Int.reduceNeg, Int.reduceToNat]) | (refine WP.drawW 10 (by kernel_rfl) (by kernel_rfl) ?_; simp only [go_sem, h1, h2, encTableRow, tyAll, Nat.reduceAdd, Nat.reduceLT, Nat.reduceLeDiff, Nat.reduceEqDiff, Nat.reduceMul, Nat.reduceSub, Nat.reduceGT, reduceIte, Int.reduceNeg, Int.reduceToNat]) |  refine And.intro ?_ ?_ | intro _))
    all_goals first | omega | skip
    · rename_i hne
      rw [show decide (L = M) = false from decide_eq_false fun e => by subst e; exact hne rfl]
    · rename_i he
      refine ⟨k + 1, ⟨by omega, ?_⟩, by omega, rfl⟩
      have he' : L[k] = M[k] := he
      rw [List.take_succ_eq_append_getElem hlt, List.take_succ_eq_append_getElem (by omega : k < M.length), ht, he']
  · (repeat' (first | refine WP.seq ?_ | (refine WP.region ?_; simp only [go_sem, tyAll, Nat.reduceAdd, Nat.reduceLT, Nat.reduceLeDiff, Nat.reduceEqDiff, Nat.reduceMul, Nat.reduceSub, Nat.reduceGT, reduceIte, Int.reduceNeg, Int.reduceToNat]) | refine WP.block ?_ | (refine WP.condW ?_; simp only [go_sem, tyAll, Nat.reduceAdd, Nat.reduceLT, Nat.reduceLeDiff, Nat.reduceEqDiff, Nat.reduceMul, Nat.reduceSub, Nat.reduceGT, reduceIte, Int.reduceNeg, Int.reduceToNat]) | (refine WP.ret ?_; simp only [go_sem, tyAll, Nat.reduceAdd, Nat.reduceLT, Nat.reduceLeDiff, Nat.reduceEqDiff, Nat.reduceMul, Nat.reduceSub, Nat.reduceGT, reduceIte, Int.reduceNeg, Int.reduceToNat]) | (refine WP.exit ?_; simp only [go_sem, tyAll, Nat.reduceAdd, Nat.reduceLT, Nat.reduceLeDiff, Nat.reduceEqDiff, Nat.reduceMul, Nat.reduceSub, Nat.reduceGT, reduceIte, Int.reduceNeg, Int.reduceToNat]) | (refine WP.skip ?_; simp only [go_sem, tyAll, Nat.reduceAdd, Nat.reduceLT, Nat.reduceLeDiff, Nat.reduceEqDiff, Nat.reduceMul, Nat.reduceSub, Nat.reduceGT, reduceIte, Int.reduceNeg, Int.reduceToNat]) |  refine And.intro ?_ ?_ | intro _))
    all_goals first | omega | skip
    rw [show decide (L = M) = true from decide_eq_true ?_]
    rw [show k = L.length by omega, List.take_length, hlen, List.take_length] at ht
    exact ht
end

def kszTableRow : Ctr := pur (fun args => (oneTableRow (aC args 0), aI args 1)) (fun x => [.agg (encTableRow x.1), .v (.int .i64 x.2)]) (fun x => x.1.name.size ≤ maxLen ∧ 0 ≤ x.2 ∧ x.2 ≤ 1048576)
  (fun _ x => .v (.int .i64 (if x.2 - x.1.name.size < 0 then -1 else x.2 - x.1.name.size))) (fun _ _ => [])
theorem cszTableRow : Cn Try.prog 62 kszTableRow := by
  refine Cn.pur Try.func62 (by kernel_rfl) rfl fun d x h => ?_
  obtain ⟨x, left⟩ := x
  obtain ⟨hL, h0, h1⟩ := h
  simp only at hL h0 h1 ⊢
  have hm : maxLen = 9223372036854775807 := rfl
  refine Holds.go (c := cx0) Try.func62 rfl Try.results62 Try.ntmps62 (by omega) (by simp) rfl ?_
  intro X0 w0
  simp only [encTableRow]
  (repeat' (first | refine WP.seq ?_ | (refine WP.region ?_; simp only [go_sem, tyAll, Nat.reduceAdd, Nat.reduceLT, Nat.reduceLeDiff, Nat.reduceEqDiff, Nat.reduceMul, Nat.reduceSub, Nat.reduceGT, reduceIte, Int.reduceNeg, Int.reduceToNat]) | refine WP.block ?_ | (refine WP.condW ?_; simp only [go_sem, tyAll, Nat.reduceAdd, Nat.reduceLT, Nat.reduceLeDiff, Nat.reduceEqDiff, Nat.reduceMul, Nat.reduceSub, Nat.reduceGT, reduceIte, Int.reduceNeg, Int.reduceToNat]) | (refine WP.ret ?_; simp only [go_sem, tyAll, Nat.reduceAdd, Nat.reduceLT, Nat.reduceLeDiff, Nat.reduceEqDiff, Nat.reduceMul, Nat.reduceSub, Nat.reduceGT, reduceIte, Int.reduceNeg, Int.reduceToNat]) | (refine WP.exit ?_; simp only [go_sem, tyAll, Nat.reduceAdd, Nat.reduceLT, Nat.reduceLeDiff, Nat.reduceEqDiff, Nat.reduceMul, Nat.reduceSub, Nat.reduceGT, reduceIte, Int.reduceNeg, Int.reduceToNat]) | (refine WP.skip ?_; simp only [go_sem, tyAll, Nat.reduceAdd, Nat.reduceLT, Nat.reduceLeDiff, Nat.reduceEqDiff, Nat.reduceMul, Nat.reduceSub, Nat.reduceGT, reduceIte, Int.reduceNeg, Int.reduceToNat]) |  refine And.intro ?_ ?_ | intro _))
  all_goals first | omega | skip
  · rename_i h; rw [if_pos h]
  · rename_i h; rw [if_neg (by omega)]

noncomputable def cxszTableRow : Cx := { P := Try.prog, tys := tys, C := [(62, kszTableRow)], hty := tysOk, hC := COk.cons cszTableRow (COk.nil _) }
theorem cxszTableRow_t : cxszTableRow.tys = tys := rfl
theorem cxszTableRow_c : cxszTableRow.C = [(62, kszTableRow)] := rfl
def sizesTableRow (L : List TableRow) : List Nat := L.map fun x => x.name.size
def szvTableRow (L : List TableRow) (left : Int) : Int := if left - L.length < 0 then -1 else szGo (sizesTableRow L) (left - L.length)
def kszTableRowS : Ctr := pur (fun args => (decTableRow (aR args 0), aI args 1)) (fun x => [.sl 3 (x.1.map encTableRow), .v (.int .i64 x.2)]) (fun x => x.1.length ≤ maxLen ∧ (∀ r ∈ x.1, r.name.size ≤ maxLen) ∧ 0 ≤ x.2 ∧ x.2 ≤ 1048576)
  (fun _ x => .v (.int .i64 (szvTableRow x.1 x.2))) (fun _ _ => [])
section
attribute [local go_sem] cxszTableRow_t cxszTableRow_c kszTableRow oneTableRow
theorem cszTableRowS : Cn Try.prog 25 kszTableRowS := by
  refine Cn.pur Try.func25 (by kernel_rfl) rfl fun d x h => ?_
  obtain ⟨L, left⟩ := x
  obtain ⟨hL, hs, h0, h1⟩ := h
  simp only at hL hs h0 h1 ⊢
  have hm : maxLen = 9223372036854775807 := rfl
  refine Holds.go (c := cxszTableRow) Try.func25 rfl Try.results25 Try.ntmps25 (by omega) (by simp) rfl ?_
  intro X0 w0
  (repeat' (first | refine WP.seq ?_ | (refine WP.region ?_; simp only [go_sem, tyAll, Nat.reduceAdd, Nat.reduceLT, Nat.reduceLeDiff, Nat.reduceEqDiff, Nat.reduceMul, Nat.reduceSub, Nat.reduceGT, reduceIte, Int.reduceNeg, Int.reduceToNat]) | refine WP.block ?_ | (refine WP.condW ?_; simp only [go_sem, tyAll, Nat.reduceAdd, Nat.reduceLT, Nat.reduceLeDiff, Nat.reduceEqDiff, Nat.reduceMul, Nat.reduceSub, Nat.reduceGT, reduceIte, Int.reduceNeg, Int.reduceToNat]) | (refine WP.ret ?_; simp only [go_sem, tyAll, Nat.reduceAdd, Nat.reduceLT, Nat.reduceLeDiff, Nat.reduceEqDiff, Nat.reduceMul, Nat.reduceSub, Nat.reduceGT, reduceIte, Int.reduceNeg, Int.reduceToNat]) | (refine WP.exit ?_; simp only [go_sem, tyAll, Nat.reduceAdd, Nat.reduceLT, Nat.reduceLeDiff, Nat.reduceEqDiff, Nat.reduceMul, Nat.reduceSub, Nat.reduceGT, reduceIte, Int.reduceNeg, Int.reduceToNat]) | (refine WP.skip ?_; simp only [go_sem, tyAll, Nat.reduceAdd, Nat.reduceLT, Nat.reduceLeDiff, Nat.reduceEqDiff, Nat.reduceMul, Nat.reduceSub, Nat.reduceGT, reduceIte, Int.reduceNeg, Int.reduceToNat]) |  refine And.intro ?_ ?_ | intro _))
  all_goals first | omega | skip
  · rename_i h; rw [szvTableRow, if_pos h]
  rename_i hge
  refine WP.loop (fun s : Nat × Int => ⟨[(0, .sl 3 (L.map encTableRow)), (1, .v (.int .i64 s.2)), (5, .v (.int .i64 s.1))], []⟩)
    (fun s => s.1 ≤ L.length ∧ 0 ≤ s.2 ∧ s.2 ≤ 1048576 ∧ szvTableRow L left = szGo ((sizesTableRow L).drop s.1) s.2) (fun s => L.length - s.1) (0, left - L.length)
    ⟨by simp, by simpa using hge, by simp only; omega, by rw [szvTableRow, if_neg (by omega)]; rfl⟩ ?_ ?_
  · simp only [go_sem, tyAll, Nat.reduceAdd, Nat.reduceLT, Nat.reduceLeDiff, Nat.reduceEqDiff, Nat.reduceMul, Nat.reduceSub, Nat.reduceGT, reduceIte, Int.reduceNeg, Int.reduceToNat]; first | exact ⟨rfl, rfl⟩ | rfl
  rintro ⟨k, r⟩ ⟨hk, hr0, hr1, he⟩
  simp only at hk hr0 hr1 he ⊢
  by_cases hlt : k < L.length
  · have h2 := rowAt_map encTableRow L k hlt
    have h3 := hs _ (List.getElem_mem hlt)
    have h4 : szGo ((sizesTableRow L).drop k) r = if r - (L[k].name.size : Int) < 0 then -1 else szGo ((sizesTableRow L).drop (k + 1)) (r - (L[k].name.size : Int)) := by
      rw [szGo_drop (sizesTableRow L) k r (by simpa [sizesTableRow] using hlt)]
      simp only [sizesTableRow, List.getElem_map]
    (repeat' (first | refine WP.seq ?_ | (refine WP.region ?_; simp only [go_sem, h2, encTableRow, tyAll, Nat.reduceAdd, Nat.reduceLT, Nat.reduceLeDiff, Nat.reduceEqDiff, Nat.reduceMul, Nat.reduceSub, Nat.reduceGT, reduceIte, Int.reduceNeg, Int.reduceToNat]) | refine WP.block ?_ | (refine WP.condW ?_; simp only [go_sem, h2, encTableRow, tyAll, Nat.reduceAdd, Nat.reduceLT, Nat.reduceLeDiff, Nat.reduceEqDiff, Nat.reduceMul, Nat.reduceSub, Nat.reduceGT, reduceIte, Int.reduceNeg, Int.reduceToNat]) | (refine WP.ret ?_; simp only [go_sem, h2, encTableRow, tyAll, Nat.reduceAdd, Nat.reduceLT, Nat.reduceLeDiff, Nat.reduceEqDiff, Nat.reduceMul, Nat.reduceSub, Nat.reduceGT, reduceIte, Int.reduceNeg, Int.reduceToNat]) | (refine WP.exit ?_; simp only [go_sem, h2, encTableRow, tyAll, Nat.reduceAdd, Nat.reduceLT, Nat.reduceLeDiff, Nat.reduceEqDiff, Nat.reduceMul, Nat.reduceSub, Nat.reduceGT, reduceIte, Int.reduceNeg, Int.reduceToNat]) | (refine WP.skip ?_; simp only [go_sem, h2, encTableRow, tyAll, Nat.reduceAdd, Nat.reduceLT, Nat.reduceLeDiff, Nat.reduceEqDiff, Nat.reduceMul, Nat.reduceSub, Nat.reduceGT, reduceIte, Int.reduceNeg, Int.reduceToNat]) |  refine And.intro ?_ ?_ | intro _))
    all_goals first | omega | skip
    · rename_i h
      have h5 : r - (L[k].name.size : Int) < 0 := by
        refine Int.not_le.1 fun h6 => ?_
        rw [if_neg (by omega)] at h
        omega
      rw [he, h4, if_pos h5]
    · rename_i h
      have h5 : ¬ r - (L[k].name.size : Int) < 0 := fun h6 => by
        rw [if_pos h6] at h
        omega
      rw [if_neg h5]
      refine ⟨(k + 1, r - L[k].name.size), ⟨by simp only; omega, by simp only; omega, by simp only; omega, ?_⟩, by simp only; omega, rfl, rfl⟩
      rw [he, h4, if_neg h5]
  · (repeat' (first | refine WP.seq ?_ | (refine WP.region ?_; simp only [go_sem, tyAll, Nat.reduceAdd, Nat.reduceLT, Nat.reduceLeDiff, Nat.reduceEqDiff, Nat.reduceMul, Nat.reduceSub, Nat.reduceGT, reduceIte, Int.reduceNeg, Int.reduceToNat]) | refine WP.block ?_ | (refine WP.condW ?_; simp only [go_sem, tyAll, Nat.reduceAdd, Nat.reduceLT, Nat.reduceLeDiff, Nat.reduceEqDiff, Nat.reduceMul, Nat.reduceSub, Nat.reduceGT, reduceIte, Int.reduceNeg, Int.reduceToNat]) | (refine WP.ret ?_; simp only [go_sem, tyAll, Nat.reduceAdd, Nat.reduceLT, Nat.reduceLeDiff, Nat.reduceEqDiff, Nat.reduceMul, Nat.reduceSub, Nat.reduceGT, reduceIte, Int.reduceNeg, Int.reduceToNat]) | (refine WP.exit ?_; simp only [go_sem, tyAll, Nat.reduceAdd, Nat.reduceLT, Nat.reduceLeDiff, Nat.reduceEqDiff, Nat.reduceMul, Nat.reduceSub, Nat.reduceGT, reduceIte, Int.reduceNeg, Int.reduceToNat]) | (refine WP.skip ?_; simp only [go_sem, tyAll, Nat.reduceAdd, Nat.reduceLT, Nat.reduceLeDiff, Nat.reduceEqDiff, Nat.reduceMul, Nat.reduceSub, Nat.reduceGT, reduceIte, Int.reduceNeg, Int.reduceToNat]) |  refine And.intro ?_ ?_ | intro _))
    all_goals first | omega | skip
    rw [he, List.drop_of_length_le (by simp [sizesTableRow]; omega)]
    rfl
end
theorem szvTableRow_ok {L : List TableRow} (h : ¬ szvTableRow L 1048576 < 0) : L.length ≤ 1048576 ∧ ∀ x ∈ L, x.name.size ≤ 1048576 := by
  unfold szvTableRow at h
  split at h
  · omega
  · rename_i h2
    refine ⟨by omega, fun x hx => ?_⟩
    have := szGo_ok (sizesTableRow L) _ (by omega) (Int.not_lt.1 h) x.name.size (List.mem_map.2 ⟨x, hx, rfl⟩)
    omega

section
open Go.RowKit Go.WideShapes Go.ChangeShapes Go.Deep
theorem rowTableRow {H : Type} {enc : TypeId × Value → H} {w : World} : Dec H enc Try.prog w 85 encTableRow (fun x => (x.name.size ≤ maxLen) ∧ (IntKind.i64.min ≤ x.self ∧ x.self ≤ IntKind.i64.max) ∧ (IntKind.i64.min ≤ x.total ∧ x.total ≤ IntKind.i64.max)) := by
  intro base sp held n cs y h
  obtain ⟨hlen, hf⟩ := trod_fields Try.underlying85 (by kernel_rfl) (by kernel_rfl) h
  obtain ⟨v0, n0, z0, e0, t0⟩ := hf 0 _ rfl
  obtain ⟨m0, q0, _, w0⟩ := DataW.trod_string Try.underlying9 t0
  simp only [List.cons.injEq, and_true] at q0
  subst q0
  obtain ⟨v1, n1, z1, e1, t1⟩ := hf 1 _ rfl
  obtain ⟨m1, q1, _, w1⟩ := DataW.trod_int Try.underlying3 t1
  simp only [List.cons.injEq, and_true] at q1
  subst q1
  obtain ⟨v2, n2, z2, e2, t2⟩ := hf 2 _ rfl
  obtain ⟨m2, q2, _, w2⟩ := DataW.trod_int Try.underlying3 t2
  simp only [List.cons.injEq, and_true] at q2
  subst q2
  have hcs : cs = [.string m0, .int .i64 m1, .int .i64 m2] := list_of_get hlen (fun j v hj => by
    match j, hj with
    | 0, hj => simp at hj; subst hj; exact e0
    | 1, hj => simp at hj; subst hj; exact e1
    | 2, hj => simp at hj; subst hj; exact e2
    | (j + 3), hj => simp at hj)
  exact ⟨⟨m0, m1, m2⟩, ⟨w0, by simpa [Lit.wf] using w1, by simpa [Lit.wf] using w2⟩, cells_vs (by rw [hcs]; rfl) (by rw [hcs]; intro u hu; simp only [List.mem_cons, List.not_mem_nil, or_false] at hu; rcases hu with rfl | rfl | rfl <;> rfl)⟩
end
end Go.Proofs.Ytkikcjomjofhmaa
