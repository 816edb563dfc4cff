/-
  DERIVED. FormatFolded, of the reference and of the program; the law's function.
-/
import Derived.Test.YtolnapfgfdgifaaDoorVtEnI
import Derived.Test.YtolnapfgfdgifaaDoorVtPrL
namespace Go.Proofs.YtolnapfgfdgifaaDoor
open Go.Vc
set_option linter.unusedSimpArgs false
set_option linter.unusedVariables false
set_option maxHeartbeats 1000000
set_option maxRecDepth 10000
attribute [local go_sem] St.runR St.runW St.stepV offV St.step St.stepU St.stepG mkCond guardB St.prK St.pr St.prLen St.eff St.callE St.callD St.callF St.callL aI aB aS aR aC St.isM St.argL Ctr.pure Ctr.lend Ctr.move Ctr.isL Ctr.wri pur len lentBy St.lentV St.lent1 nthS argsR restOf obsR pairs swapL unObs backL St.resL erL SV.ren1 SV.up SV.up2 Ob.up St.fzL cellIds partIds St.intoRow SV.ownId St.fz SV.fz1 St.prep St.mvL St.mv SV.re1 rnOk St.prEq vals eqCells scEq Value.kd St.prStr St.prCut cutR St.bnd St.prMin St.bld isShift outL retL outJ oR oC St.ev St.get St.put St.new St.kill SV.kill SV.kill1 Ob.kill St.app St.wrt St.rowsOf St.res St.killL lk er argsL SV.strip SV.need SV.share SV.share1 SV.owns SV.owns1 SV.owns2 SV.good SV.good1 SV.rok SV.rok1 SV.rok2 SV.isV SV.isV2 nodupN SV.cells SV.one SV.pur partsIn rowsIn splice cellsAt dstOk scal2 scal1 thenK blockK retK outK outs okC okL okA okT nilC nilL nilA nilT keepC keepL keepA keepT St.runG St.dltK St.least St.clean St.final St.hide offK badS badO SV.refs SV.leaf SV.leaf2 Ob.refs dlOk fpAt Go.Vc.cover tups SV.ofAgg St.out outC subL St.has rng wr Value.oneCell' Option.isSome_some Option.isSome_none List.nil_append Bool.false_eq_true List.map_cons List.map_nil List.all_cons List.all_nil List.length_cons List.length_nil List.drop_zero List.drop_succ_cons List.take_succ_cons List.take_zero List.drop_nil List.take_nil List.getElem?_cons_zero List.getElem?_cons_succ List.getElem?_nil List.cons_append List.nil_append List.append_nil List.append_assoc List.flatMap_cons List.flatMap_nil List.contains_cons List.contains_nil List.set_cons_zero List.set_cons_succ List.getElem?_toArray Option.getD_some Option.getD_none Option.map_some Option.map_none Option.bind_some Option.some.injEq Prod.mk.injEq if_true if_false true_and and_true and_self and_false false_and Bool.and_false Bool.false_and Bool.or_true Bool.true_or Bool.or_false Bool.false_or ne_eq not_true_eq_false not_false_eq_true decide_true decide_false List.mem_cons List.not_mem_nil List.filter_cons List.filter_nil List.any_cons List.any_nil List.isEmpty_nil List.isEmpty_cons Option.getD_none or_false false_or true_or or_true forall_eq_or_imp forall_eq reduceCtorEq exists_eq exists_eq' exists_eq_left' exists_eq_left exists_eq_right exists_eq_right' imp_self implies_true Bool.and_true Bool.true_and Bool.and_self beq_self_eq_true List.replicate_succ List.replicate_zero forall_const false_implies pickB_or pickB_and beqT beqF Int.toNat_natCast List.length_map List.length_replicate ge_iff_le gt_iff_lt decide_eq_true_eq decide_eq_false_iff_not Bool.and_eq_true Bool.or_eq_true Bool.not_eq_true' Bool.not_eq_false' condG List.toList_toArray Bool.or_eq_false_iff Bool.and_eq_false_iff Int.not_lt Int.not_le beq_iff_eq beq_eq_false_iff_ne bne_iff_ne bne_eq_false_iff_eq ne_eq Bool.not_true Bool.not_false exists_and_left
attribute [local irreducible] Go.Vc.WP
attribute [local go_sem] cx0_t cx0_c
attribute [local go_sem] isV_Node isV_It isV_Entry decNode_enc decFrame_enc oneFrame_enc stkA oneFrame_ab oneNode_abc decI_enc prA decEntry_enc
theorem ba_assoc (a b c : ByteArray) : a ++ b ++ c = a ++ (b ++ c) := by
  apply ByteArray.ext
  simp
/-- an entry's line -/
def lineT (e : Entry) : ByteArray := e.stack ++ (⟨#[32]⟩ ++ (bts (fmtL e.count.toNat) ++ ⟨#[10]⟩))
/-- the lines of the first k -/
def foldT (L : List Entry) : Nat → ByteArray
  | 0 => ⟨#[]⟩
  | k + 1 => foldT L k ++ (match L[k]? with | some e => lineT e | none => ⟨#[]⟩)
theorem foldT_succ {L : List Entry} {k : Nat} (h : k < L.length) : foldT L (k + 1) = foldT L k ++ lineT L[k] := by
  rw [foldT, List.getElem?_eq_getElem h]
theorem lineT_size {e : Entry} (h1 : e.stack.size ≤ 50331648) (h2 : 0 < e.count) (h3 : e.count ≤ 1000000000000) : (lineT e).size ≤ 50331668 ∧ (bts (fmtL e.count.toNat)).size ≤ 16 := by
  have h4 : (bts (fmtL e.count.toNat)).size ≤ 16 := by
    rw [bts_size]
    unfold fmtL
    split
    · simp
    · exact decB_len 16 _ (by omega)
  refine ⟨?_, h4⟩
  unfold lineT
  simp only [ByteArray.size_append]
  have e1 : ByteArray.size ⟨#[32]⟩ = 1 := rfl
  have e2 : ByteArray.size ⟨#[10]⟩ = 1 := rfl
  omega
theorem foldT_size {L : List Entry} (h : ∀ e ∈ L, (lineT e).size ≤ 50331668) : ∀ k, (foldT L k).size ≤ k * 50331668
  | 0 => by have : (foldT L 0).size = 0 := rfl; omega
  | k + 1 => by
    have ih := foldT_size h k
    rw [foldT, ByteArray.size_append]
    split
    · rename_i e he
      have := h e (List.mem_of_getElem? he)
      omega
    · have : ByteArray.size ⟨#[]⟩ = 0 := rfl
      omega
def kFold : Ctr := pur (fun args => prA args 0) (fun x => [.agg [.sl 3 (x.1.map encNode), .sl 1 (x.2.map encI)]]) (fun x => (x.1.length ≤ 2097152 ∧ ∀ n ∈ x.1, n.name.size ≤ 2097152) ∧ x.2.length ≤ 2097152) (fun _ x => .v (.string (foldT (entriesOf x.1 x.2) (entriesOf x.1 x.2).length))) (fun _ _ => [])
theorem ent_bounds {N : List Node} {C : List Int} (hN : N.length ≤ 2097152) : ∀ e ∈ entriesOf N C, (lineT e).size ≤ 50331668 ∧ (bts (fmtL e.count.toNat)).size ≤ 16 ∧ e.stack.size ≤ 25165824 ∧ 0 < e.count ∧ e.count ≤ 1000000000000 := fun e he => by
  obtain ⟨_, k, hk, hs, _, h2, h3⟩ := entriesOf_mem he
  have h1 := entriesOf_size he
  obtain ⟨h4, h5⟩ := lineT_size (e := e) (by omega) h2 h3
  exact ⟨h4, h5, by omega, h2, h3⟩
section
noncomputable def cxFdI : Cx := { P := Tryd.prog, tys := tys, C := [(20, kEnt), (21, kFmt)], hty := tysOk, hC := COk.cons cEntI (COk.cons cFmtI (COk.nil _)) }
theorem cxFdI_t : cxFdI.tys = tys := rfl
theorem cxFdI_c : cxFdI.C = [(20, kEnt), (21, kFmt)] := rfl
attribute [local go_sem] cxFdI_t cxFdI_c kEnt kFmt
theorem cFoldI : Cn Tryd.prog 8 kFold := by
  refine Cn.pur Tryd.func8 (by kernel_rfl) rfl fun d x hx => ?_
  obtain ⟨N, C⟩ := x
  obtain ⟨⟨hN, hs⟩, hC⟩ := hx
  simp only at hN hs hC ⊢
  have hlen := entriesOf_len N C
  have hb := ent_bounds (C := C) hN
  refine Holds.go (c := cxFdI) Tryd.func8 rfl Tryd.results8 Tryd.ntmps8 (by omega) (by simp) rfl ?_
  intro X0 w0
  (repeat' (first | refine WP.seq ?_ | (refine WP.region ?_; simp only [go_sem, tyAll, Nat.reduceAdd, Nat.reduceLT, Nat.reduceLeDiff, Nat.reduceEqDiff, Nat.reduceMul, Nat.reduceSub, Nat.reduceGT, reduceIte, Int.reduceNeg, Int.reduceToNat]) | refine WP.block ?_ | (refine WP.condW ?_; simp only [go_sem, tyAll, Nat.reduceAdd, Nat.reduceLT, Nat.reduceLeDiff, Nat.reduceEqDiff, Nat.reduceMul, Nat.reduceSub, Nat.reduceGT, reduceIte, Int.reduceNeg, Int.reduceToNat]) | (refine WP.ret ?_; simp only [go_sem, tyAll, Nat.reduceAdd, Nat.reduceLT, Nat.reduceLeDiff, Nat.reduceEqDiff, Nat.reduceMul, Nat.reduceSub, Nat.reduceGT, reduceIte, Int.reduceNeg, Int.reduceToNat]) | (refine WP.exit ?_; simp only [go_sem, tyAll, Nat.reduceAdd, Nat.reduceLT, Nat.reduceLeDiff, Nat.reduceEqDiff, Nat.reduceMul, Nat.reduceSub, Nat.reduceGT, reduceIte, Int.reduceNeg, Int.reduceToNat]) | (refine WP.skip ?_; simp only [go_sem, tyAll, Nat.reduceAdd, Nat.reduceLT, Nat.reduceLeDiff, Nat.reduceEqDiff, Nat.reduceMul, Nat.reduceSub, Nat.reduceGT, reduceIte, Int.reduceNeg, Int.reduceToNat]) | (refine WP.drawW 10 (by decide +kernel) (by kernel_rfl) ?_; simp only [go_sem, tyAll, Nat.reduceAdd, Nat.reduceLT, Nat.reduceLeDiff, Nat.reduceEqDiff, Nat.reduceMul, Nat.reduceSub, Nat.reduceGT, reduceIte, Int.reduceNeg, Int.reduceToNat]) |  refine And.intro ?_ ?_ | intro _))
  all_goals first | omega | (simp only; omega) | exact Nat.le_trans (hs _ ‹_›) (by omega) | exact ⟨_, _, _, rfl⟩ | skip
  refine WP.loop (fun k : Nat => ⟨[(3, .v (.string (foldT (entriesOf N C) k))), (7, .own 7), (8, .v (.int .i64 (entriesOf N C).length)), (9, .v (.int .i64 k))], [(7, .sl 47 2 ((entriesOf N C).map encEntry))]⟩) (fun k => k ≤ (entriesOf N C).length) (fun k => (entriesOf N C).length - k) 0 (by simp) ?_ ?_
  · (simp only [go_sem, tyAll, Nat.reduceAdd, Nat.reduceLT, Nat.reduceLeDiff, Nat.reduceEqDiff, Nat.reduceMul, Nat.reduceSub, Nat.reduceGT, reduceIte, Int.reduceNeg, Int.reduceToNat] <;> (first | rfl | exact ⟨rfl, rfl⟩ | exact ⟨rfl, rfl, rfl⟩ | exact ⟨rfl, rfl, rfl, rfl⟩ | exact ⟨rfl, rfl, rfl, rfl, rfl⟩ | exact ⟨⟨rfl, rfl⟩, rfl⟩ | simp))
  intro k hk
  have hsz := foldT_size (L := entriesOf N C) (fun e he => (hb e he).1) k
  have s1 : ByteArray.size ⟨#[32]⟩ = 1 := rfl
  have s2 : ByteArray.size ⟨#[10]⟩ = 1 := rfl
  have s3 : (#[32] : Array UInt8).size = 1 := rfl
  have s4 : (#[10] : Array UInt8).size = 1 := rfl
  by_cases hlt : k < (entriesOf N C).length
  · have hli : (k : Int) < (entriesOf N C).length := by omega
    have h1 := rowAt_map encEntry (entriesOf N C) k hlt
    obtain ⟨b1, b2, b3, b4, b5⟩ := hb _ (List.getElem_mem hlt)
    have hsu := foldT_succ hlt
    have hkb : k * 50331668 ≤ 2097152 * 50331668 := Nat.mul_le_mul_right _ (by omega)
    (repeat' (first | refine WP.seq ?_ | (refine WP.region ?_; simp only [go_sem, hli, h1, encEntry, tyAll, Nat.reduceAdd, Nat.reduceLT, Nat.reduceLeDiff, Nat.reduceEqDiff, Nat.reduceMul, Nat.reduceSub, Nat.reduceGT, reduceIte, Int.reduceNeg, Int.reduceToNat]) | refine WP.block ?_ | (refine WP.condW ?_; simp only [go_sem, hli, h1, encEntry, tyAll, Nat.reduceAdd, Nat.reduceLT, Nat.reduceLeDiff, Nat.reduceEqDiff, Nat.reduceMul, Nat.reduceSub, Nat.reduceGT, reduceIte, Int.reduceNeg, Int.reduceToNat]) | (refine WP.ret ?_; simp only [go_sem, hli, h1, encEntry, tyAll, Nat.reduceAdd, Nat.reduceLT, Nat.reduceLeDiff, Nat.reduceEqDiff, Nat.reduceMul, Nat.reduceSub, Nat.reduceGT, reduceIte, Int.reduceNeg, Int.reduceToNat]) | (refine WP.exit ?_; simp only [go_sem, hli, h1, encEntry, tyAll, Nat.reduceAdd, Nat.reduceLT, Nat.reduceLeDiff, Nat.reduceEqDiff, Nat.reduceMul, Nat.reduceSub, Nat.reduceGT, reduceIte, Int.reduceNeg, Int.reduceToNat]) | (refine WP.skip ?_; simp only [go_sem, hli, h1, encEntry, tyAll, Nat.reduceAdd, Nat.reduceLT, Nat.reduceLeDiff, Nat.reduceEqDiff, Nat.reduceMul, Nat.reduceSub, Nat.reduceGT, reduceIte, Int.reduceNeg, Int.reduceToNat]) | (refine WP.drawW 10 (by decide +kernel) (by kernel_rfl) ?_; simp only [go_sem, hli, h1, encEntry, tyAll, Nat.reduceAdd, Nat.reduceLT, Nat.reduceLeDiff, Nat.reduceEqDiff, Nat.reduceMul, Nat.reduceSub, Nat.reduceGT, reduceIte, Int.reduceNeg, Int.reduceToNat]) |  refine And.intro ?_ ?_ | intro _))
    all_goals first | omega | exact ⟨_, _, _, rfl⟩ | (simp only [ByteArray.size_append]; omega) | skip
    exact ⟨k + 1, by omega, by omega, by simp only [hsu, lineT, ba_assoc], by (first | rfl | exact ⟨rfl, rfl⟩ | exact ⟨rfl, rfl, rfl⟩ | exact ⟨rfl, rfl, rfl, rfl⟩ | exact ⟨rfl, rfl, rfl, rfl, rfl⟩ | exact ⟨⟨rfl, rfl⟩, rfl⟩ | simp)⟩
  · have hge : ¬ (k : Int) < (entriesOf N C).length := by omega
    (repeat' (first | refine WP.seq ?_ | (refine WP.region ?_; simp only [go_sem, hge, tyAll, Nat.reduceAdd, Nat.reduceLT, Nat.reduceLeDiff, Nat.reduceEqDiff, Nat.reduceMul, Nat.reduceSub, Nat.reduceGT, reduceIte, Int.reduceNeg, Int.reduceToNat]) | refine WP.block ?_ | (refine WP.condW ?_; simp only [go_sem, hge, tyAll, Nat.reduceAdd, Nat.reduceLT, Nat.reduceLeDiff, Nat.reduceEqDiff, Nat.reduceMul, Nat.reduceSub, Nat.reduceGT, reduceIte, Int.reduceNeg, Int.reduceToNat]) | (refine WP.ret ?_; simp only [go_sem, hge, tyAll, Nat.reduceAdd, Nat.reduceLT, Nat.reduceLeDiff, Nat.reduceEqDiff, Nat.reduceMul, Nat.reduceSub, Nat.reduceGT, reduceIte, Int.reduceNeg, Int.reduceToNat]) | (refine WP.exit ?_; simp only [go_sem, hge, tyAll, Nat.reduceAdd, Nat.reduceLT, Nat.reduceLeDiff, Nat.reduceEqDiff, Nat.reduceMul, Nat.reduceSub, Nat.reduceGT, reduceIte, Int.reduceNeg, Int.reduceToNat]) | (refine WP.skip ?_; simp only [go_sem, hge, tyAll, Nat.reduceAdd, Nat.reduceLT, Nat.reduceLeDiff, Nat.reduceEqDiff, Nat.reduceMul, Nat.reduceSub, Nat.reduceGT, reduceIte, Int.reduceNeg, Int.reduceToNat]) | (refine WP.drawW 10 (by decide +kernel) (by kernel_rfl) ?_; simp only [go_sem, hge, tyAll, Nat.reduceAdd, Nat.reduceLT, Nat.reduceLeDiff, Nat.reduceEqDiff, Nat.reduceMul, Nat.reduceSub, Nat.reduceGT, reduceIte, Int.reduceNeg, Int.reduceToNat]) |  refine And.intro ?_ ?_ | intro _))
    all_goals first | omega | skip
    rw [show k = (entriesOf N C).length by omega]
end
section
noncomputable def cxFdS : Cx := { P := Tryd.prog, tys := tys, C := [(16, kEnt), (17, kFmt)], hty := tysOk, hC := COk.cons cEntS (COk.cons cFmtS (COk.nil _)) }
theorem cxFdS_t : cxFdS.tys = tys := rfl
theorem cxFdS_c : cxFdS.C = [(16, kEnt), (17, kFmt)] := rfl
attribute [local go_sem] cxFdS_t cxFdS_c kEnt kFmt
theorem cFoldS : Cn Tryd.prog 6 kFold := by
  refine Cn.pur Tryd.func6 (by kernel_rfl) rfl fun d x hx => ?_
  obtain ⟨N, C⟩ := x
  obtain ⟨⟨hN, hs⟩, hC⟩ := hx
  simp only at hN hs hC ⊢
  have hlen := entriesOf_len N C
  have hb := ent_bounds (C := C) hN
  refine Holds.go (c := cxFdS) Tryd.func6 rfl Tryd.results6 Tryd.ntmps6 (by omega) (by simp) rfl ?_
  intro X0 w0
  (repeat' (first | refine WP.seq ?_ | (refine WP.region ?_; simp only [go_sem, tyAll, Nat.reduceAdd, Nat.reduceLT, Nat.reduceLeDiff, Nat.reduceEqDiff, Nat.reduceMul, Nat.reduceSub, Nat.reduceGT, reduceIte, Int.reduceNeg, Int.reduceToNat]) | refine WP.block ?_ | (refine WP.condW ?_; simp only [go_sem, tyAll, Nat.reduceAdd, Nat.reduceLT, Nat.reduceLeDiff, Nat.reduceEqDiff, Nat.reduceMul, Nat.reduceSub, Nat.reduceGT, reduceIte, Int.reduceNeg, Int.reduceToNat]) | (refine WP.ret ?_; simp only [go_sem, tyAll, Nat.reduceAdd, Nat.reduceLT, Nat.reduceLeDiff, Nat.reduceEqDiff, Nat.reduceMul, Nat.reduceSub, Nat.reduceGT, reduceIte, Int.reduceNeg, Int.reduceToNat]) | (refine WP.exit ?_; simp only [go_sem, tyAll, Nat.reduceAdd, Nat.reduceLT, Nat.reduceLeDiff, Nat.reduceEqDiff, Nat.reduceMul, Nat.reduceSub, Nat.reduceGT, reduceIte, Int.reduceNeg, Int.reduceToNat]) | (refine WP.skip ?_; simp only [go_sem, tyAll, Nat.reduceAdd, Nat.reduceLT, Nat.reduceLeDiff, Nat.reduceEqDiff, Nat.reduceMul, Nat.reduceSub, Nat.reduceGT, reduceIte, Int.reduceNeg, Int.reduceToNat]) | (refine WP.drawW 16 (by decide +kernel) (by kernel_rfl) ?_; simp only [go_sem, tyAll, Nat.reduceAdd, Nat.reduceLT, Nat.reduceLeDiff, Nat.reduceEqDiff, Nat.reduceMul, Nat.reduceSub, Nat.reduceGT, reduceIte, Int.reduceNeg, Int.reduceToNat]) |  refine And.intro ?_ ?_ | intro _))
  all_goals first | omega | (simp only; omega) | exact Nat.le_trans (hs _ ‹_›) (by omega) | exact ⟨_, _, _, rfl⟩ | skip
  refine WP.loop (fun k : Nat => ⟨[(3, .v (.string (foldT (entriesOf N C) k))), (4, .own 7), (5, .v (.int .i64 k))], [(7, .sl 47 2 ((entriesOf N C).map encEntry))]⟩) (fun k => k ≤ (entriesOf N C).length) (fun k => (entriesOf N C).length - k) 0 (by simp) ?_ ?_
  · (simp only [go_sem, tyAll, Nat.reduceAdd, Nat.reduceLT, Nat.reduceLeDiff, Nat.reduceEqDiff, Nat.reduceMul, Nat.reduceSub, Nat.reduceGT, reduceIte, Int.reduceNeg, Int.reduceToNat] <;> (first | rfl | exact ⟨rfl, rfl⟩ | exact ⟨rfl, rfl, rfl⟩ | exact ⟨rfl, rfl, rfl, rfl⟩ | exact ⟨rfl, rfl, rfl, rfl, rfl⟩ | exact ⟨⟨rfl, rfl⟩, rfl⟩ | simp))
  intro k hk
  have hsz := foldT_size (L := entriesOf N C) (fun e he => (hb e he).1) k
  have s1 : ByteArray.size ⟨#[32]⟩ = 1 := rfl
  have s2 : ByteArray.size ⟨#[10]⟩ = 1 := rfl
  have s3 : (#[32] : Array UInt8).size = 1 := rfl
  have s4 : (#[10] : Array UInt8).size = 1 := rfl
  by_cases hlt : k < (entriesOf N C).length
  · have hli : (k : Int) < (entriesOf N C).length := by omega
    have h1 := rowAt_map encEntry (entriesOf N C) k hlt
    obtain ⟨b1, b2, b3, b4, b5⟩ := hb _ (List.getElem_mem hlt)
    have hsu := foldT_succ hlt
    have hkb : k * 50331668 ≤ 2097152 * 50331668 := Nat.mul_le_mul_right _ (by omega)
    (repeat' (first | refine WP.seq ?_ | (refine WP.region ?_; simp only [go_sem, hli, h1, encEntry, tyAll, Nat.reduceAdd, Nat.reduceLT, Nat.reduceLeDiff, Nat.reduceEqDiff, Nat.reduceMul, Nat.reduceSub, Nat.reduceGT, reduceIte, Int.reduceNeg, Int.reduceToNat]) | refine WP.block ?_ | (refine WP.condW ?_; simp only [go_sem, hli, h1, encEntry, tyAll, Nat.reduceAdd, Nat.reduceLT, Nat.reduceLeDiff, Nat.reduceEqDiff, Nat.reduceMul, Nat.reduceSub, Nat.reduceGT, reduceIte, Int.reduceNeg, Int.reduceToNat]) | (refine WP.ret ?_; simp only [go_sem, hli, h1, encEntry, tyAll, Nat.reduceAdd, Nat.reduceLT, Nat.reduceLeDiff, Nat.reduceEqDiff, Nat.reduceMul, Nat.reduceSub, Nat.reduceGT, reduceIte, Int.reduceNeg, Int.reduceToNat]) | (refine WP.exit ?_; simp only [go_sem, hli, h1, encEntry, tyAll, Nat.reduceAdd, Nat.reduceLT, Nat.reduceLeDiff, Nat.reduceEqDiff, Nat.reduceMul, Nat.reduceSub, Nat.reduceGT, reduceIte, Int.reduceNeg, Int.reduceToNat]) | (refine WP.skip ?_; simp only [go_sem, hli, h1, encEntry, tyAll, Nat.reduceAdd, Nat.reduceLT, Nat.reduceLeDiff, Nat.reduceEqDiff, Nat.reduceMul, Nat.reduceSub, Nat.reduceGT, reduceIte, Int.reduceNeg, Int.reduceToNat]) | (refine WP.drawW 16 (by decide +kernel) (by kernel_rfl) ?_; simp only [go_sem, hli, h1, encEntry, tyAll, Nat.reduceAdd, Nat.reduceLT, Nat.reduceLeDiff, Nat.reduceEqDiff, Nat.reduceMul, Nat.reduceSub, Nat.reduceGT, reduceIte, Int.reduceNeg, Int.reduceToNat]) |  refine And.intro ?_ ?_ | intro _))
    all_goals first | omega | exact ⟨_, _, _, rfl⟩ | (simp only [ByteArray.size_append]; omega) | skip
    exact ⟨k + 1, by omega, by omega, by simp only [hsu, lineT, ba_assoc], by (first | rfl | exact ⟨rfl, rfl⟩ | exact ⟨rfl, rfl, rfl⟩ | exact ⟨rfl, rfl, rfl, rfl⟩ | exact ⟨rfl, rfl, rfl, rfl, rfl⟩ | exact ⟨⟨rfl, rfl⟩, rfl⟩ | simp)⟩
  · have hge : ¬ (k : Int) < (entriesOf N C).length := by omega
    (repeat' (first | refine WP.seq ?_ | (refine WP.region ?_; simp only [go_sem, hge, tyAll, Nat.reduceAdd, Nat.reduceLT, Nat.reduceLeDiff, Nat.reduceEqDiff, Nat.reduceMul, Nat.reduceSub, Nat.reduceGT, reduceIte, Int.reduceNeg, Int.reduceToNat]) | refine WP.block ?_ | (refine WP.condW ?_; simp only [go_sem, hge, tyAll, Nat.reduceAdd, Nat.reduceLT, Nat.reduceLeDiff, Nat.reduceEqDiff, Nat.reduceMul, Nat.reduceSub, Nat.reduceGT, reduceIte, Int.reduceNeg, Int.reduceToNat]) | (refine WP.ret ?_; simp only [go_sem, hge, tyAll, Nat.reduceAdd, Nat.reduceLT, Nat.reduceLeDiff, Nat.reduceEqDiff, Nat.reduceMul, Nat.reduceSub, Nat.reduceGT, reduceIte, Int.reduceNeg, Int.reduceToNat]) | (refine WP.exit ?_; simp only [go_sem, hge, tyAll, Nat.reduceAdd, Nat.reduceLT, Nat.reduceLeDiff, Nat.reduceEqDiff, Nat.reduceMul, Nat.reduceSub, Nat.reduceGT, reduceIte, Int.reduceNeg, Int.reduceToNat]) | (refine WP.skip ?_; simp only [go_sem, hge, tyAll, Nat.reduceAdd, Nat.reduceLT, Nat.reduceLeDiff, Nat.reduceEqDiff, Nat.reduceMul, Nat.reduceSub, Nat.reduceGT, reduceIte, Int.reduceNeg, Int.reduceToNat]) | (refine WP.drawW 16 (by decide +kernel) (by kernel_rfl) ?_; simp only [go_sem, hge, tyAll, Nat.reduceAdd, Nat.reduceLT, Nat.reduceLeDiff, Nat.reduceEqDiff, Nat.reduceMul, Nat.reduceSub, Nat.reduceGT, reduceIte, Int.reduceNeg, Int.reduceToNat]) |  refine And.intro ?_ ?_ | intro _))
    all_goals first | omega | skip
    rw [show k = (entriesOf N C).length by omega]
end
section
noncomputable def cxFdL : Cx := { P := Tryd.prog, tys := tys, C := [(5, kszPr), (7, ktoPr), (9, keqPr), (6, kFold), (8, kFold)], hty := tysOk, hC := COk.cons cszPr (COk.cons ctoPr (COk.cons ceqPr (COk.cons cFoldS (COk.cons cFoldI (COk.nil _))))) }
theorem cxFdL_t : cxFdL.tys = tys := rfl
theorem cxFdL_c : cxFdL.C = [(5, kszPr), (7, ktoPr), (9, keqPr), (6, kFold), (8, kFold)] := rfl
attribute [local go_sem] cxFdL_t cxFdL_c kszPr ktoPr keqPr kFold
theorem lawFormatFolded (x : List Node × List Int) (hx : wfM x) : Holds Tryd.prog 3 [.agg [.sl 3 (x.1.map encNode), .sl 1 (x.2.map encI)]] (.v (.bool true)) [] := by
  obtain ⟨N, C⟩ := x
  obtain ⟨hN, hs, hC⟩ := hx
  simp only at hN hs hC ⊢
  refine Holds.go (c := cxFdL) Tryd.func3 rfl Tryd.results3 Tryd.ntmps3 (by omega) (by simp) rfl ?_
  intro X0 w0
  have key : 0 ≤ szvPr (N, C) 1048576 → (N.length ≤ 1048576 ∧ ∀ n ∈ N, n.name.size ≤ 1048576) ∧ C.length ≤ 1048576 := fun h => szvPr_ok (x := (N, C)) (l := 1048576) (Int.le_refl _) (Int.not_lt.2 h)
  have key1 : 0 ≤ szvPr (N, C) 1048576 → N.length ≤ 1048576 := fun h => (key h).1.1
  have key2 : 0 ≤ szvPr (N, C) 1048576 → C.length ≤ 1048576 := fun h => (key h).2
  (repeat' (first | refine WP.seq ?_ | (refine WP.region ?_; simp only [go_sem, tyAll, Nat.reduceAdd, Nat.reduceLT, Nat.reduceLeDiff, Nat.reduceEqDiff, Nat.reduceMul, Nat.reduceSub, Nat.reduceGT, reduceIte, Int.reduceNeg, Int.reduceToNat]) | refine WP.block ?_ | (refine WP.condW ?_; simp only [go_sem, tyAll, Nat.reduceAdd, Nat.reduceLT, Nat.reduceLeDiff, Nat.reduceEqDiff, Nat.reduceMul, Nat.reduceSub, Nat.reduceGT, reduceIte, Int.reduceNeg, Int.reduceToNat]) | (refine WP.ret ?_; simp only [go_sem, tyAll, Nat.reduceAdd, Nat.reduceLT, Nat.reduceLeDiff, Nat.reduceEqDiff, Nat.reduceMul, Nat.reduceSub, Nat.reduceGT, reduceIte, Int.reduceNeg, Int.reduceToNat]) | (refine WP.exit ?_; simp only [go_sem, tyAll, Nat.reduceAdd, Nat.reduceLT, Nat.reduceLeDiff, Nat.reduceEqDiff, Nat.reduceMul, Nat.reduceSub, Nat.reduceGT, reduceIte, Int.reduceNeg, Int.reduceToNat]) | (refine WP.skip ?_; simp only [go_sem, tyAll, Nat.reduceAdd, Nat.reduceLT, Nat.reduceLeDiff, Nat.reduceEqDiff, Nat.reduceMul, Nat.reduceSub, Nat.reduceGT, reduceIte, Int.reduceNeg, Int.reduceToNat]) | (refine WP.flowW 3 [⟨[5], [], [], [24, 1024], [], []⟩, ⟨[1], [], [], [24, 1024], [], []⟩, ⟨[23], [1], [], [], [], [24, 1024]⟩, ⟨[], [0, 1, 2], [], [], [], []⟩, ⟨[], [0, 1, 2, 3], [], [], [], []⟩] [22, 23, 24] [24, 1024] [] (by decide +kernel) (by kernel_rfl) (by kernel_rfl) (by kernel_rfl) ?_; simp only [go_sem, tyAll, Nat.reduceAdd, Nat.reduceLT, Nat.reduceLeDiff, Nat.reduceEqDiff, Nat.reduceMul, Nat.reduceSub, Nat.reduceGT, reduceIte, Int.reduceNeg, Int.reduceToNat]) |  refine And.intro ?_ ?_ | intro _))
  all_goals first | omega | exact ⟨_, _, _, rfl⟩ | exact hs _ ‹_› | exact Nat.le_trans (key1 ‹_›) (by omega) | exact Nat.le_trans (key2 ‹_›) (by omega) | exact Nat.le_trans ((key ‹_›).1.2 _ ‹_›) (by omega) | skip
end
end Go.Proofs.YtolnapfgfdgifaaDoor
