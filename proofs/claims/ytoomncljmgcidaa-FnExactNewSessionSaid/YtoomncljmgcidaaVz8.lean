/-
  DERIVED. Several texts of ours in one: VtMark, VtStrS, VtSeZ, VtSeZ2, VcFz, VcFw, VtSeT, VtSeT2, VtSeQ, VgTok.
-/
import Derived.Test.YtoomncljmgcidaaVz0
import Derived.Test.YtoomncljmgcidaaVz1
import Derived.Test.YtoomncljmgcidaaVz2
import Derived.Test.YtoomncljmgcidaaVz3
import Derived.Test.YtoomncljmgcidaaVz4
import Derived.Test.YtoomncljmgcidaaVz5
import Derived.Test.YtoomncljmgcidaaVz6
import Derived.Test.YtoomncljmgcidaaVz7
set_option linter.unusedSimpArgs false
set_option linter.unusedVariables false
namespace Go.Proofs.Ytoomncljmgcidaa
open Go.Vc
attribute [local go_sem] St.runR St.runW St.stepV offV St.step St.stepU St.stepG mkCond guardB St.prK St.pr St.prLen St.eff St.callE St.callD St.callF St.callL aI aB aS aR aC St.isM St.argL Ctr.pure Ctr.lend Ctr.move Ctr.isL Ctr.wri pur len lentBy St.lentV St.lent1 nthS argsR restOf obsR pairs swapL unObs backL St.resL erL SV.ren1 SV.up SV.up2 Ob.up St.fzL cellIds partIds St.intoRow SV.ownId St.fz SV.fz1 St.prep St.mvL St.mv SV.re1 rnOk St.prEq vals eqCells scEq Value.kd St.prStr St.prCut cutR St.bnd St.prMin St.bld isShift outL retL outJ oR oC oE oD SV.upq SV.isSl SV.shut St.deepK St.dpArg St.deepQ absC Ob.pl St.ev St.get St.put St.new St.kill SV.kill SV.kill1 Ob.kill St.app St.wrt St.rowsOf St.res St.killL lk er argsL SV.strip SV.need SV.share SV.share1 SV.owns SV.owns1 SV.owns2 SV.good SV.good1 SV.rok SV.rok1 SV.rok2 SV.isV SV.isV2 nodupN SV.cells SV.one SV.pur Ob.pb partsIn rowsIn splice cellsAt dstOk scal2 scal1 thenK blockK retK outK outs okC okL okA okT nilC nilL nilA nilT keepC keepL keepA keepT St.runG St.dltK St.least St.clean St.final St.hide offK badS badO SV.refs SV.leaf SV.leaf2 Ob.refs dlOk fpAt Go.Vc.cover tups SV.ofAgg St.out outC subL St.has rng wr Value.oneCell' Option.isSome_some Option.isSome_none List.nil_append Bool.false_eq_true List.map_cons List.map_nil List.all_cons List.all_nil List.length_cons List.length_nil List.drop_zero List.drop_succ_cons List.take_succ_cons List.take_zero List.drop_nil List.take_nil List.getElem?_cons_zero List.getElem?_cons_succ List.getElem?_nil List.cons_append List.nil_append List.append_nil List.append_assoc List.flatMap_cons List.flatMap_nil List.contains_cons List.contains_nil List.set_cons_zero List.set_cons_succ List.getElem?_toArray Option.getD_some Option.getD_none Option.map_some Option.map_none Option.bind_some Option.some.injEq Prod.mk.injEq if_true if_false true_and and_true and_self and_false false_and Bool.and_false Bool.false_and Bool.or_true Bool.true_or Bool.or_false Bool.false_or ne_eq not_true_eq_false not_false_eq_true decide_true decide_false List.mem_cons List.not_mem_nil List.filter_cons List.filter_nil List.any_cons List.any_nil List.isEmpty_nil List.isEmpty_cons Option.getD_none or_false false_or true_or or_true forall_eq_or_imp forall_eq reduceCtorEq exists_eq exists_eq' exists_eq_left' exists_eq_left exists_eq_right exists_eq_right' imp_self implies_true Bool.and_true Bool.true_and Bool.and_self beq_self_eq_true List.replicate_succ List.replicate_zero forall_const false_implies pickB_or pickB_and beqT beqF Int.toNat_natCast List.length_map List.length_replicate ge_iff_le gt_iff_lt decide_eq_true_eq decide_eq_false_iff_not Bool.and_eq_true Bool.or_eq_true Bool.not_eq_true' Bool.not_eq_false' condG List.toList_toArray Bool.or_eq_false_iff Bool.and_eq_false_iff Int.not_lt Int.not_le beq_iff_eq beq_eq_false_iff_ne bne_iff_ne bne_eq_false_iff_eq ne_eq Bool.not_true Bool.not_false exists_and_left
section
open Go.Vc
set_option linter.unusedSimpArgs false
set_option linter.unusedVariables false
set_option maxHeartbeats 1000000
set_option maxRecDepth 10000
attribute [local irreducible] Go.Vc.WP
attribute [local go_sem] cx0_t cx0_c
def keqS : Ctr := pur (fun args => (decS (aR args 0), decS (aR args 1))) (fun x => [.sl 1 (x.1.map encS), .sl 1 (x.2.map encS)]) (fun x => x.1.length ≤ 4398046511104) (fun _ x => .v (.bool (decide (x.1 = x.2)))) (fun _ _ => [])
theorem ceqS : Cn Try.prog 50 keqS := by
  refine Cn.pur Try.func50 (by kernel_rfl) rfl fun d x hx => ?_
  obtain ⟨L, M⟩ := x
  simp only at hx ⊢
  refine Holds.go (c := cx0) Try.func50 rfl Try.results50 Try.ntmps50 (by omega) (by simp) rfl ?_
  intro X0 w0
  (repeat' (first | refine WP.seq ?_ | refine WP.block ?_ | ((first | refine WP.region ?_ | refine WP.condW ?_ | refine WP.ret ?_ | refine WP.exit ?_ | refine WP.skip ?_); simp only [go_sem, tyAll, Nat.reduceAdd, Nat.reduceLT, Nat.reduceLeDiff, Nat.reduceEqDiff, Nat.reduceMul, Nat.reduceSub, Nat.reduceGT, reduceIte, Int.reduceNeg, Int.reduceToNat]) | ((first | refine WP.drawW 9 (by decide +kernel) (by kernel_rfl) ?_); simp only [go_sem, tyAll, Nat.reduceAdd, Nat.reduceLT, Nat.reduceLeDiff, Nat.reduceEqDiff, Nat.reduceMul, Nat.reduceSub, Nat.reduceGT, reduceIte, Int.reduceNeg, Int.reduceToNat]) |  refine And.intro ?_ ?_ | intro _))
  · simp; intro h; subst h; simp_all
  have hlen : L.length = M.length := by omega
  refine WP.loop (fun k : Nat => ⟨[(0, .sl 1 (L.map encS)), (1, .sl 1 (M.map encS)), (5, .v (.int .i64 k))], []⟩) (fun k => k ≤ L.length ∧ L.take k = M.take k) (fun k => L.length - k) 0 (by simp) ?_ ?_
  · (simp only [go_sem, tyAll, Nat.reduceAdd, Nat.reduceLT, Nat.reduceLeDiff, Nat.reduceEqDiff, Nat.reduceMul, Nat.reduceSub, Nat.reduceGT, reduceIte, Int.reduceNeg, Int.reduceToNat] <;> (first | rfl | exact ⟨rfl, rfl⟩ | exact ⟨rfl, rfl, rfl⟩ | exact ⟨rfl, rfl, rfl, rfl⟩ | exact ⟨rfl, rfl, rfl, rfl, rfl⟩ | exact ⟨⟨rfl, rfl⟩, rfl⟩ | simp))
  intro k ⟨hk, ht⟩
  by_cases hlt : k < L.length
  · have h1 := rowAt_map encS L k hlt
    have h2 := rowAt_map encS M k (by omega)
    (repeat' (first | refine WP.seq ?_ | refine WP.block ?_ | ((first | refine WP.region ?_ | refine WP.condW ?_ | refine WP.ret ?_ | refine WP.exit ?_ | refine WP.skip ?_); simp only [go_sem, h1, h2, encS, tyAll, Nat.reduceAdd, Nat.reduceLT, Nat.reduceLeDiff, Nat.reduceEqDiff, Nat.reduceMul, Nat.reduceSub, Nat.reduceGT, reduceIte, Int.reduceNeg, Int.reduceToNat]) | ((first | refine WP.drawW 9 (by decide +kernel) (by kernel_rfl) ?_); simp only [go_sem, h1, h2, encS, tyAll, Nat.reduceAdd, Nat.reduceLT, Nat.reduceLeDiff, Nat.reduceEqDiff, Nat.reduceMul, Nat.reduceSub, Nat.reduceGT, reduceIte, Int.reduceNeg, Int.reduceToNat]) |  refine And.intro ?_ ?_ | intro _))
    all_goals first | omega | skip
    · rename_i hne
      rw [show decide (L = M) = false from decide_eq_false fun e => by subst e; exact hne rfl]
    · rename_i he
      refine ⟨k + 1, ⟨by omega, ?_⟩, by omega, rfl⟩
      rw [List.take_succ_eq_append_getElem hlt, List.take_succ_eq_append_getElem (by omega : k < M.length), ht, he]
  · (repeat' (first | refine WP.seq ?_ | refine WP.block ?_ | ((first | refine WP.region ?_ | refine WP.condW ?_ | refine WP.ret ?_ | refine WP.exit ?_ | refine WP.skip ?_); simp only [go_sem, tyAll, Nat.reduceAdd, Nat.reduceLT, Nat.reduceLeDiff, Nat.reduceEqDiff, Nat.reduceMul, Nat.reduceSub, Nat.reduceGT, reduceIte, Int.reduceNeg, Int.reduceToNat]) | ((first | refine WP.drawW 9 (by decide +kernel) (by kernel_rfl) ?_); simp only [go_sem, tyAll, Nat.reduceAdd, Nat.reduceLT, Nat.reduceLeDiff, Nat.reduceEqDiff, Nat.reduceMul, Nat.reduceSub, Nat.reduceGT, reduceIte, Int.reduceNeg, Int.reduceToNat]) |  refine And.intro ?_ ?_ | intro _))
    all_goals first | omega | skip
    rw [show decide (L = M) = true from decide_eq_true ?_]
    rw [show k = L.length by omega, List.take_length, hlen, List.take_length] at ht
    exact ht

def marksS (k : Int) (n : Nat) : List ByteArray := (List.range n).map fun i : Nat => markT (k + (i : Int))
theorem marksS_len (k : Int) (n : Nat) : (marksS k n).length = n := by simp [marksS]
def halfS (L : List ByteArray) (k0 : Int) (k : Nat) : List ByteArray := marksS k0 k ++ L.drop k
theorem halfS_len (L : List ByteArray) (k0 : Int) (k : Nat) (h : k ≤ L.length) : (halfS L k0 k).length = L.length := by simp [halfS, marksS_len]; omega
theorem halfS_set (L : List ByteArray) (k0 : Int) (k : Nat) (h : k < L.length) : ((halfS L k0 k).map encS).set k (encS (markT (k0 + k))) = (halfS L k0 (k + 1)).map encS := by
  rw [← List.map_set]
  congr 1
  unfold halfS
  rw [List.set_append, if_neg (by simp [marksS_len]), marksS_len, Nat.sub_self, List.drop_eq_getElem_cons h, List.set_cons_zero]
  simp [marksS, List.range_succ]
def kmarkS : Ctr := len [0] [] (fun args obs => (decS (oR obs 1000000), aI args 1)) (fun x => [.own 1000000, .v (.int .i64 x.2)]) (fun x => [(1000000, .sl 9 1 (x.1.map encS))]) (fun x => x.1.length ≤ 4398046511104 ∧ 0 ≤ x.2 ∧ x.2 ≤ 500000000000000)
  (fun _ x => .v (.int .i64 (x.2 + x.1.length))) (fun _ _ => []) (fun x => [(1000000, .sl 9 1 ((marksS x.2 x.1.length).map encS))])
section
noncomputable def cxMs : Cx := { P := Try.prog, tys := tys, C := [(70, kmarkT)], hty := tysOk, hC := COk.cons cmarkT (COk.nil _) }
theorem cxMs_t : cxMs.tys = tys := rfl
theorem cxMs_c : cxMs.C = [(70, kmarkT)] := rfl
attribute [local go_sem] cxMs_t cxMs_c kmarkT
theorem cmarkS : Cn Try.prog 56 kmarkS := by
  refine Cn.len Try.func56 (by kernel_rfl) rfl fun d x hd hx => ?_
  obtain ⟨L, k0⟩ := x
  obtain ⟨hL, h0, h1⟩ := hx
  simp only at hL h0 h1 ⊢
  refine HoldsL.go (c := cxMs) Try.func56 rfl Try.results56 Try.ntmps56 (by omega) (by simp) rfl (by simp <;> omega) (by simp [SV.owns2, SV.owns, SV.owns1]) (by simp) rfl rfl (by simp) ?_
  intro X0 M w0
  (repeat' (first | refine WP.seq ?_ | refine WP.block ?_ | ((first | refine WP.region ?_ | refine WP.condW ?_ | refine WP.ret ?_ | refine WP.exit ?_ | refine WP.skip ?_); simp only [go_sem, tyAll, Nat.reduceAdd, Nat.reduceLT, Nat.reduceLeDiff, Nat.reduceEqDiff, Nat.reduceMul, Nat.reduceSub, Nat.reduceGT, reduceIte, Int.reduceNeg, Int.reduceToNat]) |  refine And.intro ?_ ?_ | intro _))
  refine WP.loop (fun k : Nat => ⟨[(0, .own 1000000), (1, .v (.int .i64 (k0 + k))), (5, .v (.int .i64 k))], [(1000000, .sl 9 1 ((halfS L k0 k).map encS))]⟩) (fun k => k ≤ L.length) (fun k => L.length - k) 0 (by omega) ?_ ?_
  · have e : halfS L k0 0 = L := by simp [halfS, marksS]
    rw [e]; (simp only [go_sem, tyAll, Nat.reduceAdd, Nat.reduceLT, Nat.reduceLeDiff, Nat.reduceEqDiff, Nat.reduceMul, Nat.reduceSub, Nat.reduceGT, reduceIte, Int.reduceNeg, Int.reduceToNat] <;> (first | rfl | exact ⟨rfl, rfl⟩ | exact ⟨rfl, rfl, rfl⟩ | exact ⟨rfl, rfl, rfl, rfl⟩ | exact ⟨rfl, rfl, rfl, rfl, rfl⟩ | exact ⟨⟨rfl, rfl⟩, rfl⟩ | simp))
  intro k hk
  have h2 := halfS_len L k0 k hk
  by_cases hlt : k < L.length
  · have h3 := halfS_set L k0 k hlt
    rw [encS] at h3
    have h4 := rowAt_map encS (halfS L k0 k) k (by omega)
    (repeat' (first | refine WP.seq ?_ | refine WP.block ?_ | ((first | refine WP.region ?_ | refine WP.condW ?_ | refine WP.ret ?_ | refine WP.exit ?_ | refine WP.skip ?_); simp only [go_sem, h2, h3, h4, encS, tyAll, Nat.reduceAdd, Nat.reduceLT, Nat.reduceLeDiff, Nat.reduceEqDiff, Nat.reduceMul, Nat.reduceSub, Nat.reduceGT, reduceIte, Int.reduceNeg, Int.reduceToNat]) |  refine And.intro ?_ ?_ | intro _))
    all_goals first | omega | skip
    refine ⟨k + 1, by omega, by omega, ⟨?_, rfl⟩, rfl⟩
    rw [show k0 + (k : Int) + 1 = k0 + ((k + 1 : Nat) : Int) by omega]
  · have h5 : halfS L k0 k = marksS k0 L.length := by rw [show k = L.length by omega]; simp [halfS]
    have h6 := marksS_len k0 L.length
    (repeat' (first | refine WP.seq ?_ | refine WP.block ?_ | ((first | refine WP.region ?_ | refine WP.condW ?_ | refine WP.ret ?_ | refine WP.exit ?_ | refine WP.skip ?_); simp only [go_sem, h2, h5, h6, tyAll, Nat.reduceAdd, Nat.reduceLT, Nat.reduceLeDiff, Nat.reduceEqDiff, Nat.reduceMul, Nat.reduceSub, Nat.reduceGT, reduceIte, Int.reduceNeg, Int.reduceToNat]) |  refine And.intro ?_ ?_ | intro _))
    all_goals first | omega | skip
    rw [show k = L.length by omega]
def kheldS : Ctr := pur (fun args => (decS (aR args 0), aI args 1)) (fun x => [.sl 1 (x.1.map encS), .v (.int .i64 x.2)]) (fun x => x.1.length ≤ 4398046511104 ∧ 0 ≤ x.2 ∧ x.2 ≤ 500000000000000)
  (fun _ x => .v (.int .i64 (if x.1 = marksS x.2 x.1.length then x.2 + x.1.length else -1))) (fun _ _ => [])
theorem cheldS : Cn Try.prog 59 kheldS := by
  refine Cn.pur Try.func59 (by kernel_rfl) rfl fun d x hx => ?_
  obtain ⟨L, k0⟩ := x
  obtain ⟨hL, h0, h1⟩ := hx
  simp only at hL h0 h1 ⊢
  refine Holds.go (c := cxMs) Try.func59 rfl Try.results59 Try.ntmps59 (by omega) (by simp) rfl ?_
  intro X0 w0
  (repeat' (first | refine WP.seq ?_ | refine WP.block ?_ | ((first | refine WP.region ?_ | refine WP.condW ?_ | refine WP.ret ?_ | refine WP.exit ?_ | refine WP.skip ?_); simp only [go_sem, tyAll, Nat.reduceAdd, Nat.reduceLT, Nat.reduceLeDiff, Nat.reduceEqDiff, Nat.reduceMul, Nat.reduceSub, Nat.reduceGT, reduceIte, Int.reduceNeg, Int.reduceToNat]) | ((first | refine WP.drawW 7 (by decide +kernel) (by kernel_rfl) ?_); simp only [go_sem, tyAll, Nat.reduceAdd, Nat.reduceLT, Nat.reduceLeDiff, Nat.reduceEqDiff, Nat.reduceMul, Nat.reduceSub, Nat.reduceGT, reduceIte, Int.reduceNeg, Int.reduceToNat]) |  refine And.intro ?_ ?_ | intro _))
  refine WP.loop (fun k : Nat => ⟨[(0, .sl 1 (L.map encS)), (1, .v (.int .i64 (k0 + k))), (5, .v (.int .i64 k))], []⟩) (fun k => k ≤ L.length ∧ L.take k = marksS k0 k) (fun k => L.length - k) 0 (by simp [marksS]) ?_ ?_
  · (simp only [go_sem, tyAll, Nat.reduceAdd, Nat.reduceLT, Nat.reduceLeDiff, Nat.reduceEqDiff, Nat.reduceMul, Nat.reduceSub, Nat.reduceGT, reduceIte, Int.reduceNeg, Int.reduceToNat] <;> (first | rfl | exact ⟨rfl, rfl⟩ | exact ⟨rfl, rfl, rfl⟩ | exact ⟨rfl, rfl, rfl, rfl⟩ | exact ⟨rfl, rfl, rfl, rfl, rfl⟩ | exact ⟨⟨rfl, rfl⟩, rfl⟩ | simp))
  intro k ⟨hk, ht⟩
  by_cases hlt : k < L.length
  · have h3 := rowAt_map encS L k hlt
    (repeat' (first | refine WP.seq ?_ | refine WP.block ?_ | ((first | refine WP.region ?_ | refine WP.condW ?_ | refine WP.ret ?_ | refine WP.exit ?_ | refine WP.skip ?_); simp only [go_sem, h3, encS, tyAll, Nat.reduceAdd, Nat.reduceLT, Nat.reduceLeDiff, Nat.reduceEqDiff, Nat.reduceMul, Nat.reduceSub, Nat.reduceGT, reduceIte, Int.reduceNeg, Int.reduceToNat]) | ((first | refine WP.drawW 7 (by decide +kernel) (by kernel_rfl) ?_); simp only [go_sem, h3, encS, tyAll, Nat.reduceAdd, Nat.reduceLT, Nat.reduceLeDiff, Nat.reduceEqDiff, Nat.reduceMul, Nat.reduceSub, Nat.reduceGT, reduceIte, Int.reduceNeg, Int.reduceToNat]) |  refine And.intro ?_ ?_ | intro _))
    all_goals first | omega | skip
    · rename_i hne
      rw [if_neg]
      intro e
      apply hne
      have e2 : L[k] = (marksS k0 L.length)[k]'(by rw [marksS_len]; exact hlt) := by congr 1
      rw [e2]; simp [marksS]
    · rename_i he
      refine ⟨k + 1, ⟨by omega, ?_⟩, by omega, ?_, rfl⟩
      · rw [List.take_succ_eq_append_getElem hlt, ht, he]; simp [marksS, List.range_succ]
      · rw [show k0 + (k : Int) + 1 = k0 + ((k + 1 : Nat) : Int) by omega]
  · (repeat' (first | refine WP.seq ?_ | refine WP.block ?_ | ((first | refine WP.region ?_ | refine WP.condW ?_ | refine WP.ret ?_ | refine WP.exit ?_ | refine WP.skip ?_); simp only [go_sem, tyAll, Nat.reduceAdd, Nat.reduceLT, Nat.reduceLeDiff, Nat.reduceEqDiff, Nat.reduceMul, Nat.reduceSub, Nat.reduceGT, reduceIte, Int.reduceNeg, Int.reduceToNat]) | ((first | refine WP.drawW 7 (by decide +kernel) (by kernel_rfl) ?_); simp only [go_sem, tyAll, Nat.reduceAdd, Nat.reduceLT, Nat.reduceLeDiff, Nat.reduceEqDiff, Nat.reduceMul, Nat.reduceSub, Nat.reduceGT, reduceIte, Int.reduceNeg, Int.reduceToNat]) |  refine And.intro ?_ ?_ | intro _))
    all_goals first | omega | skip
    rw [show k = L.length by omega, List.take_length] at ht
    rw [if_pos ht, show k = L.length by omega]
end
end
section
open Go.Vc
set_option linter.unusedSimpArgs false
set_option linter.unusedVariables false
set_option maxHeartbeats 1000000
set_option maxRecDepth 10000
attribute [local irreducible] Go.Vc.WP
attribute [local go_sem] cx0_t cx0_c
attribute [local go_sem] decS_enc
def szvStr (L : List ByteArray) : Int → Int := szList (L.map fun s => szA s.size)
def kszStr : Ctr := pur (fun args => (decS (aR args 0), aI args 1)) (fun x => [.sl 1 (x.1.map encS), .v (.int .i64 x.2)]) (fun x => x.1.length ≤ maxLen ∧ (∀ s ∈ x.1, s.size ≤ maxLen) ∧ 0 ≤ x.2 ∧ x.2 ≤ 1048576)
  (fun _ x => .v (.int .i64 (szvStr x.1 x.2))) (fun _ _ => [])
section
noncomputable def cxZs : Cx := { P := Try.prog, tys := tys, C := [], hty := tysOk, hC := COk.nil _ }
theorem cxZs_t : cxZs.tys = tys := rfl
theorem cxZs_c : cxZs.C = [] := rfl
attribute [local go_sem] cxZs_t cxZs_c 
end
def ktoSo : Ctr := pur (fun args => decS (aR args 0)) (fun L => [.sl 1 (L.map encS)]) (fun L => L.length ≤ 2097152) (fun d _ => .own d) (fun d L => [(d, .sl 9 1 (L.map encS))])
section
noncomputable def cxTso : Cx := { P := Try.prog, tys := tys, C := [], hty := tysOk, hC := COk.nil _ }
theorem cxTso_t : cxTso.tys = tys := rfl
theorem cxTso_c : cxTso.C = [] := rfl
attribute [local go_sem] cxTso_t cxTso_c 
end
def kmarkSE : Ctr := len [0] [] (fun args obs => (decS (oR obs 1000000), aI args 1, oE obs 1000000)) (fun x => [.own 1000000, .v (.int .i64 x.2.1)]) (fun x => [(1000000, .sl x.2.2 1 (x.1.map encS))]) (fun x => x.1.length ≤ 4398046511104 ∧ 0 ≤ x.2.1 ∧ x.2.1 ≤ 500000000000000)
  (fun _ x => .v (.int .i64 (x.2.1 + x.1.length))) (fun _ _ => []) (fun x => [(1000000, .sl x.2.2 1 ((marksS x.2.1 x.1.length).map encS))])
section
noncomputable def cxMse : Cx := { P := Try.prog, tys := tys, C := [(70, kmarkT)], hty := tysOk, hC := COk.cons cmarkT (COk.nil _) }
theorem cxMse_t : cxMse.tys = tys := rfl
theorem cxMse_c : cxMse.C = [(70, kmarkT)] := rfl
attribute [local go_sem] cxMse_t cxMse_c kmarkT
theorem cmarkSE : Cn Try.prog 56 kmarkSE := by
  refine Cn.len Try.func56 (by kernel_rfl) rfl fun d x hd hx => ?_
  obtain ⟨L, k0, ee⟩ := x
  obtain ⟨hL, h0, h1⟩ := hx
  simp only at hL h0 h1 ⊢
  refine HoldsL.go (c := cxMse) Try.func56 rfl Try.results56 Try.ntmps56 (by omega) (by simp) rfl (by simp <;> omega) (by simp [SV.owns2, SV.owns, SV.owns1]) (by simp) rfl rfl (by simp) ?_
  intro X0 M w0
  (repeat' (first | refine WP.seq ?_ | refine WP.block ?_ | ((first | refine WP.region ?_ | refine WP.condW ?_ | refine WP.ret ?_ | refine WP.exit ?_ | refine WP.skip ?_); simp only [go_sem, tyAll, Nat.reduceAdd, Nat.reduceLT, Nat.reduceLeDiff, Nat.reduceEqDiff, Nat.reduceMul, Nat.reduceSub, Nat.reduceGT, reduceIte, Int.reduceNeg, Int.reduceToNat]) |  refine And.intro ?_ ?_ | intro _))
  refine WP.loop (fun k : Nat => ⟨[(0, .own 1000000), (1, .v (.int .i64 (k0 + k))), (5, .v (.int .i64 k))], [(1000000, .sl ee 1 ((halfS L k0 k).map encS))]⟩) (fun k => k ≤ L.length) (fun k => L.length - k) 0 (by omega) ?_ ?_
  · have e : halfS L k0 0 = L := by simp [halfS, marksS]
    rw [e]; (simp only [go_sem, tyAll, Nat.reduceAdd, Nat.reduceLT, Nat.reduceLeDiff, Nat.reduceEqDiff, Nat.reduceMul, Nat.reduceSub, Nat.reduceGT, reduceIte, Int.reduceNeg, Int.reduceToNat] <;> (first | rfl | exact ⟨rfl, rfl⟩ | exact ⟨rfl, rfl, rfl⟩ | exact ⟨rfl, rfl, rfl, rfl⟩ | exact ⟨rfl, rfl, rfl, rfl, rfl⟩ | exact ⟨⟨rfl, rfl⟩, rfl⟩ | simp))
  intro k hk
  have h2 := halfS_len L k0 k hk
  by_cases hlt : k < L.length
  · have h3 := halfS_set L k0 k hlt
    rw [encS] at h3
    have h4 := rowAt_map encS (halfS L k0 k) k (by omega)
    (repeat' (first | refine WP.seq ?_ | refine WP.block ?_ | ((first | refine WP.region ?_ | refine WP.condW ?_ | refine WP.ret ?_ | refine WP.exit ?_ | refine WP.skip ?_); simp only [go_sem, h2, h3, h4, encS, tyAll, Nat.reduceAdd, Nat.reduceLT, Nat.reduceLeDiff, Nat.reduceEqDiff, Nat.reduceMul, Nat.reduceSub, Nat.reduceGT, reduceIte, Int.reduceNeg, Int.reduceToNat]) |  refine And.intro ?_ ?_ | intro _))
    all_goals first | omega | skip
    refine ⟨k + 1, by omega, by omega, ⟨?_, rfl⟩, rfl⟩
    rw [show k0 + (k : Int) + 1 = k0 + ((k + 1 : Nat) : Int) by omega]
  · have h5 : halfS L k0 k = marksS k0 L.length := by rw [show k = L.length by omega]; simp [halfS]
    have h6 := marksS_len k0 L.length
    (repeat' (first | refine WP.seq ?_ | refine WP.block ?_ | ((first | refine WP.region ?_ | refine WP.condW ?_ | refine WP.ret ?_ | refine WP.exit ?_ | refine WP.skip ?_); simp only [go_sem, h2, h5, h6, tyAll, Nat.reduceAdd, Nat.reduceLT, Nat.reduceLeDiff, Nat.reduceEqDiff, Nat.reduceMul, Nat.reduceSub, Nat.reduceGT, reduceIte, Int.reduceNeg, Int.reduceToNat]) |  refine And.intro ?_ ?_ | intro _))
    all_goals first | omega | skip
    rw [show k = L.length by omega]
end
end
section
open Go.Vc
set_option linter.unusedSimpArgs false
set_option linter.unusedVariables false
set_option maxHeartbeats 1000000
set_option maxRecDepth 10000
attribute [local irreducible] Go.Vc.WP
attribute [local go_sem] cx0_t cx0_c
open Go.Pl
attribute [local go_sem] decI_enc decImage_enc spA decS_enc decMach_enc oneMach_f mach_eta pcA rgA seA decSymbol_enc
theorem szvSymbol_f (Y : List Symbol) : Szf (szvSymbol Y) := fun l h => by
  unfold szvSymbol
  split
  · omega
  · have := szGo_f (sizesSymbol Y) (l - Y.length) (by omega); omega
theorem szvSymbol_ok' {L : List Symbol} {l : Int} (h : 0 ≤ szvSymbol L l) : L.length ≤ l ∧ ∀ x ∈ L, x.name.size ≤ l := by
  unfold szvSymbol at h
  split at h
  · omega
  · rename_i h2
    refine ⟨by omega, fun x hx => ?_⟩
    have := szGo_ok (sizesSymbol L) _ (by omega) h x.name.size (List.mem_map.2 ⟨x, hx, rfl⟩)
    omega
def kszIn : Ctr := pur (fun args => (decI (aR args 0), aI args 1)) (fun x => [.sl 1 (x.1.map encI), .v (.int .i64 x.2)]) (fun x => x.1.length ≤ maxLen ∧ 0 ≤ x.2 ∧ x.2 ≤ 1048576)
  (fun _ x => .v (.int .i64 (szA x.1.length x.2))) (fun _ _ => [])
section
noncomputable def cxZi : Cx := { P := Try.prog, tys := tys, C := [], hty := tysOk, hC := COk.nil _ }
theorem cxZi_t : cxZi.tys = tys := rfl
theorem cxZi_c : cxZi.C = [] := rfl
attribute [local go_sem] cxZi_t cxZi_c 
theorem cszIn : Cn Try.prog 32 kszIn := by
  refine Cn.pur Try.func32 (by kernel_rfl) rfl fun d x hx => ?_
  obtain ⟨L, left⟩ := x
  obtain ⟨hL, h0, h1⟩ := hx
  simp only at hL h0 h1 ⊢
  have hm : maxLen = 9223372036854775807 := rfl
  refine Holds.go (c := cxZi) Try.func32 rfl Try.results32 Try.ntmps32 (by omega) (by simp) rfl ?_
  intro X0 w0
  (repeat' (first | refine WP.seq ?_ | refine WP.block ?_ | ((first | refine WP.region ?_ | refine WP.condW ?_ | refine WP.ret ?_ | refine WP.exit ?_ | refine WP.skip ?_); simp only [go_sem, tyAll, Nat.reduceAdd, Nat.reduceLT, Nat.reduceLeDiff, Nat.reduceEqDiff, Nat.reduceMul, Nat.reduceSub, Nat.reduceGT, reduceIte, Int.reduceNeg, Int.reduceToNat]) |  refine And.intro ?_ ?_ | intro _))
  all_goals first | omega | skip
  · rename_i h; rw [szA, if_pos h]
  · rename_i h; rw [szA, if_neg (by omega)]
end
def szvImg (x : Image) : Int → Int := szT (szA x.code.size) (szvSymbol x.symbols)
def bigImg (x : Image) : Prop := x.code.size ≤ maxLen ∧ x.symbols.length ≤ maxLen ∧ ∀ r ∈ x.symbols, r.name.size ≤ maxLen
theorem szvImg_f (x : Image) : Szf (szvImg x) := szT_f (szA_f _) (szvSymbol_f _)
def kszImg : Ctr := pur (fun args => (oneImage (aC args 0), aI args 1)) (fun x => [.agg [.v (.string x.1.code), .sl 3 (x.1.symbols.map encSymbol)], .v (.int .i64 x.2)]) (fun x => bigImg x.1 ∧ 0 ≤ x.2 ∧ x.2 ≤ 1048576)
  (fun _ x => .v (.int .i64 (szvImg x.1 x.2))) (fun _ _ => [])
section
attribute [local go_sem] oneImage
noncomputable def cxZm : Cx := { P := Try.prog, tys := tys, C := [(74, kszSymbolS)], hty := tysOk, hC := COk.cons cszSymbolS (COk.nil _) }
theorem cxZm_t : cxZm.tys = tys := rfl
theorem cxZm_c : cxZm.C = [(74, kszSymbolS)] := rfl
attribute [local go_sem] cxZm_t cxZm_c kszSymbolS
theorem cszImg : Cn Try.prog 60 kszImg := by
  refine Cn.pur Try.func60 (by kernel_rfl) rfl fun d x hx => ?_
  obtain ⟨⟨c, Y⟩, left⟩ := x
  obtain ⟨⟨hc, hY, hn⟩, h0, h1⟩ := hx
  simp only at hc hY hn h0 h1 ⊢
  have hm : maxLen = 9223372036854775807 := rfl
  have hu : szvImg ⟨c, Y⟩ left = if szA c.size left < 0 then -1 else szvSymbol Y (szA c.size left) := rfl
  have ha : szA c.size left = if left - (c.size : Int) < 0 then -1 else left - (c.size : Int) := rfl
  refine Holds.go (c := cxZm) Try.func60 rfl Try.results60 Try.ntmps60 (by omega) (by simp) rfl ?_
  intro X0 w0
  by_cases h5 : left - (c.size : Int) < 0
  · rw [if_pos h5] at ha
    rw [hu, ha, if_pos (by omega)]
    (repeat' (first | refine WP.seq ?_ | refine WP.block ?_ | ((first | refine WP.region ?_ | refine WP.condW ?_ | refine WP.ret ?_ | refine WP.exit ?_ | refine WP.skip ?_); simp only [go_sem, h5, tyAll, Nat.reduceAdd, Nat.reduceLT, Nat.reduceLeDiff, Nat.reduceEqDiff, Nat.reduceMul, Nat.reduceSub, Nat.reduceGT, reduceIte, Int.reduceNeg, Int.reduceToNat]) |  refine And.intro ?_ ?_ | intro _))
    all_goals first | omega | skip
    all_goals trace_state
  · rw [if_neg h5] at ha
    rw [hu, ha, if_neg h5]
    (repeat' (first | refine WP.seq ?_ | refine WP.block ?_ | ((first | refine WP.region ?_ | refine WP.condW ?_ | refine WP.ret ?_ | refine WP.exit ?_ | refine WP.skip ?_); simp only [go_sem, h5, tyAll, Nat.reduceAdd, Nat.reduceLT, Nat.reduceLeDiff, Nat.reduceEqDiff, Nat.reduceMul, Nat.reduceSub, Nat.reduceGT, reduceIte, Int.reduceNeg, Int.reduceToNat]) |  refine And.intro ?_ ?_ | intro _))
    all_goals first | omega | exact hn _ ‹_› | skip
    all_goals first | (rename_i h; exact (by rw [szf_neg (szvSymbol_f Y) (by omega) h])) | skip
    all_goals trace_state
end
end
section
open Go.Vc
set_option linter.unusedSimpArgs false
set_option linter.unusedVariables false
set_option maxHeartbeats 1000000
set_option maxRecDepth 10000
attribute [local irreducible] Go.Vc.WP
attribute [local go_sem] cx0_t cx0_c
open Go.Pl
attribute [local go_sem] decI_enc decImage_enc spA decS_enc decMach_enc oneMach_f mach_eta pcA rgA seA decSymbol_enc
attribute [local irreducible] bigImg

def szvImageS (L : List Image) : Int → Int := szList (L.map szvImg)
theorem szvImageS_f (L : List Image) : Szf (szvImageS L) := szList_f _ (by simp only [List.mem_map]; rintro _ ⟨x, _, rfl⟩; exact szvImg_f x)
def kszImgS : Ctr := pur (fun args => (decImage (aR args 0), aI args 1)) (fun x => [.sl 2 (x.1.map encImage), .v (.int .i64 x.2)]) (fun x => x.1.length ≤ maxLen ∧ (∀ s ∈ x.1, bigImg s) ∧ 0 ≤ x.2 ∧ x.2 ≤ 1048576)
  (fun _ x => .v (.int .i64 (szvImageS x.1 x.2))) (fun _ _ => [])
section
attribute [local go_sem] oneImage
noncomputable def cxZms : Cx := { P := Try.prog, tys := tys, C := [(60, kszImg)], hty := tysOk, hC := COk.cons cszImg (COk.nil _) }
theorem cxZms_t : cxZms.tys = tys := rfl
theorem cxZms_c : cxZms.C = [(60, kszImg)] := rfl
attribute [local go_sem] cxZms_t cxZms_c kszImg
theorem cszImgS : Cn Try.prog 31 kszImgS := by
  refine Cn.pur Try.func31 (by kernel_rfl) rfl fun d x hx => ?_
  obtain ⟨L, left⟩ := x
  obtain ⟨hL, hs, h0, h1⟩ := hx
  simp only at hL hs h0 h1 ⊢
  have hm : maxLen = 9223372036854775807 := rfl
  generalize hF : (L.map szvImg) = F
  have hlen : F.length = L.length := by rw [← hF, List.length_map]
  have hsz : szvImageS L left = szList F left := by rw [← hF]; rfl
  rw [hsz]
  refine Holds.go (c := cxZms) Try.func31 rfl Try.results31 Try.ntmps31 (by omega) (by simp) rfl ?_
  intro X0 w0
  (repeat' (first | refine WP.seq ?_ | refine WP.block ?_ | ((first | refine WP.region ?_ | refine WP.condW ?_ | refine WP.ret ?_ | refine WP.exit ?_ | refine WP.skip ?_); simp only [go_sem, tyAll, Nat.reduceAdd, Nat.reduceLT, Nat.reduceLeDiff, Nat.reduceEqDiff, Nat.reduceMul, Nat.reduceSub, Nat.reduceGT, reduceIte, Int.reduceNeg, Int.reduceToNat]) |  refine And.intro ?_ ?_ | intro _))
  all_goals first | omega | skip
  · rename_i h; rw [szList, hlen, if_pos h]
  rename_i hge
  refine WP.loop (fun s : Nat × Int => ⟨[(0, .sl 2 (L.map encImage)), (1, .v (.int .i64 s.2)), (5, .v (.int .i64 s.1))], []⟩)
    (fun s => s.1 ≤ L.length ∧ 0 ≤ s.2 ∧ s.2 ≤ 1048576 ∧ szList F left = szL (F.drop s.1) s.2) (fun s => L.length - s.1) (0, left - L.length)
    ⟨by simp, by simpa using hge, by simp only; omega, by rw [szList, hlen, if_neg (by omega)]; rfl⟩ ?_ ?_
  · simp only [go_sem, tyAll, Nat.reduceAdd, Nat.reduceLT, Nat.reduceLeDiff, Nat.reduceEqDiff, Nat.reduceMul, Nat.reduceSub, Nat.reduceGT, reduceIte, Int.reduceNeg, Int.reduceToNat]; first | exact ⟨rfl, rfl⟩ | rfl
  rintro ⟨k, r⟩ ⟨hk, hr0, hr1, he⟩
  simp only at hk hr0 hr1 he ⊢
  by_cases hlt : k < L.length
  · have h2 := rowAt_map encImage L k hlt
    have h3 := hs _ (List.getElem_mem hlt)
    have hFk : F[k]'(by omega) = szvImg L[k] := by subst hF; simp
    have h4 := szL_drop F k r (by omega)
    rw [hFk] at h4
    have h6 := szvImg_f L[k] r hr0
    by_cases h5 : szvImg L[k] r < 0
    · rw [he, h4, if_pos h5]
      (repeat' (first | refine WP.seq ?_ | refine WP.block ?_ | ((first | refine WP.region ?_ | refine WP.condW ?_ | refine WP.ret ?_ | refine WP.exit ?_ | refine WP.skip ?_); simp only [go_sem, h2, encImage, h5, tyAll, Nat.reduceAdd, Nat.reduceLT, Nat.reduceLeDiff, Nat.reduceEqDiff, Nat.reduceMul, Nat.reduceSub, Nat.reduceGT, reduceIte, Int.reduceNeg, Int.reduceToNat]) |  refine And.intro ?_ ?_ | intro _))
      all_goals first | omega | exact h3 | skip
      all_goals trace_state
    · rw [if_neg h5] at h4
      (repeat' (first | refine WP.seq ?_ | refine WP.block ?_ | ((first | refine WP.region ?_ | refine WP.condW ?_ | refine WP.ret ?_ | refine WP.exit ?_ | refine WP.skip ?_); simp only [go_sem, h2, encImage, h5, tyAll, Nat.reduceAdd, Nat.reduceLT, Nat.reduceLeDiff, Nat.reduceEqDiff, Nat.reduceMul, Nat.reduceSub, Nat.reduceGT, reduceIte, Int.reduceNeg, Int.reduceToNat]) |  refine And.intro ?_ ?_ | intro _))
      all_goals first | omega | exact h3 | exact ⟨(k + 1, szvImg L[k] r), ⟨by simp only; omega, by simp only; omega, by simp only; omega, by rw [he, h4]⟩, by simp only; omega, rfl, rfl⟩ | skip
      all_goals trace_state
  · (repeat' (first | refine WP.seq ?_ | refine WP.block ?_ | ((first | refine WP.region ?_ | refine WP.condW ?_ | refine WP.ret ?_ | refine WP.exit ?_ | refine WP.skip ?_); simp only [go_sem, tyAll, Nat.reduceAdd, Nat.reduceLT, Nat.reduceLeDiff, Nat.reduceEqDiff, Nat.reduceMul, Nat.reduceSub, Nat.reduceGT, reduceIte, Int.reduceNeg, Int.reduceToNat]) |  refine And.intro ?_ ?_ | intro _))
    all_goals first | omega | skip
    rw [he, List.drop_of_length_le (by omega)]
    rfl
end

def szvMach (x : Mach) : Int → Int := szT (szA x.stack.length) (szA x.out.length)
theorem szvMach_f (x : Mach) : Szf (szvMach x) := szT_f (szA_f _) (szA_f _)
def bigMach (x : Mach) : Prop := x.stack.length ≤ maxLen ∧ x.out.length ≤ maxLen
def kszMach : Ctr := pur (fun args => (oneMach (aC args 0), aI args 1)) (fun x => [.agg [.v (.int .i64 x.1.pc), .v (.int .i64 x.1.sp), .v (.int .i64 x.1.fp), .sl 1 (x.1.stack.map encI), .sl 1 (x.1.out.map encI), .v (.int .i64 x.1.state), .v (.int .i64 x.1.value)], .v (.int .i64 x.2)]) (fun x => bigMach x.1 ∧ 0 ≤ x.2 ∧ x.2 ≤ 1048576)
  (fun _ x => .v (.int .i64 (szvMach x.1 x.2))) (fun _ _ => [])
section
noncomputable def cxZa : Cx := { P := Try.prog, tys := tys, C := [(32, kszIn)], hty := tysOk, hC := COk.cons cszIn (COk.nil _) }
theorem cxZa_t : cxZa.tys = tys := rfl
theorem cxZa_c : cxZa.C = [(32, kszIn)] := rfl
attribute [local go_sem] cxZa_t cxZa_c kszIn
theorem cszMach : Cn Try.prog 33 kszMach := by
  refine Cn.pur Try.func33 (by kernel_rfl) rfl fun d x hx => ?_
  obtain ⟨⟨a, b, c, s, o, d2, e2⟩, left⟩ := x
  obtain ⟨⟨hs, ho⟩, h0, h1⟩ := hx
  simp only at hs ho h0 h1 ⊢
  have hu : szvMach ⟨a, b, c, s, o, d2, e2⟩ left = if szA s.length left < 0 then -1 else szA o.length (szA s.length left) := rfl
  have ha := szA_f s.length left h0
  rw [hu]
  refine Holds.go (c := cxZa) Try.func33 rfl Try.results33 Try.ntmps33 (by omega) (by simp) rfl ?_
  intro X0 w0
  by_cases h5 : szA s.length left < 0
  · rw [if_pos h5]
    (repeat' (first | refine WP.seq ?_ | refine WP.block ?_ | ((first | refine WP.region ?_ | refine WP.condW ?_ | refine WP.ret ?_ | refine WP.exit ?_ | refine WP.skip ?_); simp only [go_sem, h5, tyAll, Nat.reduceAdd, Nat.reduceLT, Nat.reduceLeDiff, Nat.reduceEqDiff, Nat.reduceMul, Nat.reduceSub, Nat.reduceGT, reduceIte, Int.reduceNeg, Int.reduceToNat]) |  refine And.intro ?_ ?_ | intro _))
    all_goals first | omega | skip
    all_goals trace_state
  · rw [if_neg h5]
    (repeat' (first | refine WP.seq ?_ | refine WP.block ?_ | ((first | refine WP.region ?_ | refine WP.condW ?_ | refine WP.ret ?_ | refine WP.exit ?_ | refine WP.skip ?_); simp only [go_sem, h5, tyAll, Nat.reduceAdd, Nat.reduceLT, Nat.reduceLeDiff, Nat.reduceEqDiff, Nat.reduceMul, Nat.reduceSub, Nat.reduceGT, reduceIte, Int.reduceNeg, Int.reduceToNat]) |  refine And.intro ?_ ?_ | intro _))
    all_goals first | omega | (rename_i h; rw [szf_neg (szA_f _) (by omega) h]) | skip
    all_goals trace_state
end
attribute [local irreducible] bigMach

def szvMachS (L : List Mach) : Int → Int := szList (L.map szvMach)
theorem szvMachS_f (L : List Mach) : Szf (szvMachS L) := szList_f _ (by simp only [List.mem_map]; rintro _ ⟨x, _, rfl⟩; exact szvMach_f x)
def kszMachS : Ctr := pur (fun args => (decMach (aR args 0), aI args 1)) (fun x => [.sl 7 (x.1.map encMach), .v (.int .i64 x.2)]) (fun x => x.1.length ≤ maxLen ∧ (∀ s ∈ x.1, bigMach s) ∧ 0 ≤ x.2 ∧ x.2 ≤ 1048576)
  (fun _ x => .v (.int .i64 (szvMachS x.1 x.2))) (fun _ _ => [])
section
attribute [local go_sem] oneMach
noncomputable def cxZas : Cx := { P := Try.prog, tys := tys, C := [(33, kszMach)], hty := tysOk, hC := COk.cons cszMach (COk.nil _) }
theorem cxZas_t : cxZas.tys = tys := rfl
theorem cxZas_c : cxZas.C = [(33, kszMach)] := rfl
attribute [local go_sem] cxZas_t cxZas_c kszMach
theorem cszMachS : Cn Try.prog 15 kszMachS := by
  refine Cn.pur Try.func15 (by kernel_rfl) rfl fun d x hx => ?_
  obtain ⟨L, left⟩ := x
  obtain ⟨hL, hs, h0, h1⟩ := hx
  simp only at hL hs h0 h1 ⊢
  have hm : maxLen = 9223372036854775807 := rfl
  generalize hF : (L.map szvMach) = F
  have hlen : F.length = L.length := by rw [← hF, List.length_map]
  have hsz : szvMachS L left = szList F left := by rw [← hF]; rfl
  rw [hsz]
  refine Holds.go (c := cxZas) Try.func15 rfl Try.results15 Try.ntmps15 (by omega) (by simp) rfl ?_
  intro X0 w0
  (repeat' (first | refine WP.seq ?_ | refine WP.block ?_ | ((first | refine WP.region ?_ | refine WP.condW ?_ | refine WP.ret ?_ | refine WP.exit ?_ | refine WP.skip ?_); simp only [go_sem, tyAll, Nat.reduceAdd, Nat.reduceLT, Nat.reduceLeDiff, Nat.reduceEqDiff, Nat.reduceMul, Nat.reduceSub, Nat.reduceGT, reduceIte, Int.reduceNeg, Int.reduceToNat]) |  refine And.intro ?_ ?_ | intro _))
  all_goals first | omega | skip
  · rename_i h; rw [szList, hlen, if_pos h]
  rename_i hge
  refine WP.loop (fun s : Nat × Int => ⟨[(0, .sl 7 (L.map encMach)), (1, .v (.int .i64 s.2)), (5, .v (.int .i64 s.1))], []⟩)
    (fun s => s.1 ≤ L.length ∧ 0 ≤ s.2 ∧ s.2 ≤ 1048576 ∧ szList F left = szL (F.drop s.1) s.2) (fun s => L.length - s.1) (0, left - L.length)
    ⟨by simp, by simpa using hge, by simp only; omega, by rw [szList, hlen, if_neg (by omega)]; rfl⟩ ?_ ?_
  · simp only [go_sem, tyAll, Nat.reduceAdd, Nat.reduceLT, Nat.reduceLeDiff, Nat.reduceEqDiff, Nat.reduceMul, Nat.reduceSub, Nat.reduceGT, reduceIte, Int.reduceNeg, Int.reduceToNat]; first | exact ⟨rfl, rfl⟩ | rfl
  rintro ⟨k, r⟩ ⟨hk, hr0, hr1, he⟩
  simp only at hk hr0 hr1 he ⊢
  by_cases hlt : k < L.length
  · have h2 := rowAt_map encMach L k hlt
    have h3 := hs _ (List.getElem_mem hlt)
    have hFk : F[k]'(by omega) = szvMach L[k] := by subst hF; simp
    have h4 := szL_drop F k r (by omega)
    rw [hFk] at h4
    have h6 := szvMach_f L[k] r hr0
    by_cases h5 : szvMach L[k] r < 0
    · rw [he, h4, if_pos h5]
      (repeat' (first | refine WP.seq ?_ | refine WP.block ?_ | ((first | refine WP.region ?_ | refine WP.condW ?_ | refine WP.ret ?_ | refine WP.exit ?_ | refine WP.skip ?_); simp only [go_sem, h2, encMach, h5, tyAll, Nat.reduceAdd, Nat.reduceLT, Nat.reduceLeDiff, Nat.reduceEqDiff, Nat.reduceMul, Nat.reduceSub, Nat.reduceGT, reduceIte, Int.reduceNeg, Int.reduceToNat]) |  refine And.intro ?_ ?_ | intro _))
      all_goals first | omega | exact h3 | skip
      all_goals trace_state
    · rw [if_neg h5] at h4
      (repeat' (first | refine WP.seq ?_ | refine WP.block ?_ | ((first | refine WP.region ?_ | refine WP.condW ?_ | refine WP.ret ?_ | refine WP.exit ?_ | refine WP.skip ?_); simp only [go_sem, h2, encMach, h5, tyAll, Nat.reduceAdd, Nat.reduceLT, Nat.reduceLeDiff, Nat.reduceEqDiff, Nat.reduceMul, Nat.reduceSub, Nat.reduceGT, reduceIte, Int.reduceNeg, Int.reduceToNat]) |  refine And.intro ?_ ?_ | intro _))
      all_goals first | omega | exact h3 | exact ⟨(k + 1, szvMach L[k] r), ⟨by simp only; omega, by simp only; omega, by simp only; omega, by rw [he, h4]⟩, by simp only; omega, rfl, rfl⟩ | skip
      all_goals trace_state
  · (repeat' (first | refine WP.seq ?_ | refine WP.block ?_ | ((first | refine WP.region ?_ | refine WP.condW ?_ | refine WP.ret ?_ | refine WP.exit ?_ | refine WP.skip ?_); simp only [go_sem, tyAll, Nat.reduceAdd, Nat.reduceLT, Nat.reduceLeDiff, Nat.reduceEqDiff, Nat.reduceMul, Nat.reduceSub, Nat.reduceGT, reduceIte, Int.reduceNeg, Int.reduceToNat]) |  refine And.intro ?_ ?_ | intro _))
    all_goals first | omega | skip
    rw [he, List.drop_of_length_le (by omega)]
    rfl
end

abbrev SpX := List Image × List Int × List Int
def szvSp (x : SpX) : Int → Int := szT (szvImageS x.1) (szT (szA x.2.1.length) (szA x.2.2.length))
theorem szvSp_f (x : SpX) : Szf (szvSp x) := szT_f (szvImageS_f _) (szT_f (szA_f _) (szA_f _))
def bigSp (x : SpX) : Prop := (x.1.length ≤ maxLen ∧ ∀ s ∈ x.1, bigImg s) ∧ x.2.1.length ≤ maxLen ∧ x.2.2.length ≤ maxLen
def kszSp : Ctr := pur (fun args => (spA args 0, aI args 1)) (fun x => [.agg [.sl 2 (x.1.1.map encImage), .sl 1 (x.1.2.1.map encI), .sl 1 (x.1.2.2.map encI)], .v (.int .i64 x.2)]) (fun x => bigSp x.1 ∧ 0 ≤ x.2 ∧ x.2 ≤ 1048576)
  (fun _ x => .v (.int .i64 (szvSp x.1 x.2))) (fun _ _ => [])
section
noncomputable def cxZp : Cx := { P := Try.prog, tys := tys, C := [(32, kszIn), (31, kszImgS)], hty := tysOk, hC := COk.cons cszIn (COk.cons cszImgS (COk.nil _)) }
theorem cxZp_t : cxZp.tys = tys := rfl
theorem cxZp_c : cxZp.C = [(32, kszIn), (31, kszImgS)] := rfl
attribute [local go_sem] cxZp_t cxZp_c kszIn kszImgS
theorem cszSp : Cn Try.prog 14 kszSp := by
  refine Cn.pur Try.func14 (by kernel_rfl) rfl fun d x hx => ?_
  obtain ⟨⟨I, B, E⟩, left⟩ := x
  obtain ⟨⟨⟨hI, hIm⟩, hB, hE⟩, h0, h1⟩ := hx
  simp only at hI hIm hB hE h0 h1 ⊢
  have hu : szvSp (I, B, E) left = if szvImageS I left < 0 then -1 else if szA B.length (szvImageS I left) < 0 then -1 else szA E.length (szA B.length (szvImageS I left)) := rfl
  have ha := szvImageS_f I left h0
  rw [hu]
  refine Holds.go (c := cxZp) Try.func14 rfl Try.results14 Try.ntmps14 (by omega) (by simp) rfl ?_
  intro X0 w0
  by_cases h5 : szvImageS I left < 0
  · rw [if_pos h5]
    (repeat' (first | refine WP.seq ?_ | refine WP.block ?_ | ((first | refine WP.region ?_ | refine WP.condW ?_ | refine WP.ret ?_ | refine WP.exit ?_ | refine WP.skip ?_); simp only [go_sem, h5, tyAll, Nat.reduceAdd, Nat.reduceLT, Nat.reduceLeDiff, Nat.reduceEqDiff, Nat.reduceMul, Nat.reduceSub, Nat.reduceGT, reduceIte, Int.reduceNeg, Int.reduceToNat]) |  refine And.intro ?_ ?_ | intro _))
    all_goals first | omega | exact hIm _ ‹_› | skip
    all_goals trace_state
  · rw [if_neg h5]
    have hb := szA_f B.length (szvImageS I left) (by omega)
    by_cases h6 : szA B.length (szvImageS I left) < 0
    · rw [if_pos h6]
      (repeat' (first | refine WP.seq ?_ | refine WP.block ?_ | ((first | refine WP.region ?_ | refine WP.condW ?_ | refine WP.ret ?_ | refine WP.exit ?_ | refine WP.skip ?_); simp only [go_sem, h5, h6, tyAll, Nat.reduceAdd, Nat.reduceLT, Nat.reduceLeDiff, Nat.reduceEqDiff, Nat.reduceMul, Nat.reduceSub, Nat.reduceGT, reduceIte, Int.reduceNeg, Int.reduceToNat]) |  refine And.intro ?_ ?_ | intro _))
      all_goals first | omega | exact hIm _ ‹_› | skip
      all_goals trace_state
    · rw [if_neg h6]
      (repeat' (first | refine WP.seq ?_ | refine WP.block ?_ | ((first | refine WP.region ?_ | refine WP.condW ?_ | refine WP.ret ?_ | refine WP.exit ?_ | refine WP.skip ?_); simp only [go_sem, h5, h6, tyAll, Nat.reduceAdd, Nat.reduceLT, Nat.reduceLeDiff, Nat.reduceEqDiff, Nat.reduceMul, Nat.reduceSub, Nat.reduceGT, reduceIte, Int.reduceNeg, Int.reduceToNat]) |  refine And.intro ?_ ?_ | intro _))
      all_goals first | omega | exact hIm _ ‹_› | (rename_i h; rw [szf_neg (szA_f _) (by omega) h]) | skip
      all_goals trace_state
end
def szvRg (x : RgX) : Int → Int := szvStr x.2.1
theorem szvStr_f (L : List ByteArray) : Szf (szvStr L) := szList_f _ (by simp only [List.mem_map]; rintro _ ⟨x, _, rfl⟩; exact szA_f _)
def bigRg (x : RgX) : Prop := x.2.1.length ≤ maxLen ∧ ∀ s ∈ x.2.1, s.size ≤ maxLen
def kszRg : Ctr := pur (fun args => (rgA args 0, aI args 1)) (fun x => [.agg [.v (.int .i64 x.1.1), .sl 1 (x.1.2.1.map encS), .v (.int .i64 x.1.2.2.1), .v (.int .i64 x.1.2.2.2)], .v (.int .i64 x.2)]) (fun x => bigRg x.1 ∧ 0 ≤ x.2 ∧ x.2 ≤ 1048576)
  (fun _ x => .v (.int .i64 (szvRg x.1 x.2))) (fun _ _ => [])
section
noncomputable def cxZr : Cx := { P := Try.prog, tys := tys, C := [], hty := tysOk, hC := COk.nil _ }
theorem cxZr_t : cxZr.tys = tys := rfl
theorem cxZr_c : cxZr.C = [] := rfl
attribute [local go_sem] cxZr_t cxZr_c 
end
def szvPc (x : PcX) : Int → Int := szT (szvSp x.1) (szvMachS x.2.1)
theorem szvPc_f (x : PcX) : Szf (szvPc x) := szT_f (szvSp_f _) (szvMachS_f _)
def bigPc (x : PcX) : Prop := bigSp x.1 ∧ x.2.1.length ≤ maxLen ∧ ∀ s ∈ x.2.1, bigMach s
def kszPc : Ctr := pur (fun args => (pcA args 0, aI args 1)) (fun x => [.agg [.sl 2 (x.1.1.1.map encImage), .sl 1 (x.1.1.2.1.map encI), .sl 1 (x.1.1.2.2.map encI), .sl 7 (x.1.2.1.map encMach), .v (.int .i64 x.1.2.2.1), .v (.int .i64 x.1.2.2.2.1), .v (.int .i64 x.1.2.2.2.2)], .v (.int .i64 x.2)]) (fun x => bigPc x.1 ∧ 0 ≤ x.2 ∧ x.2 ≤ 1048576)
  (fun _ x => .v (.int .i64 (szvPc x.1 x.2))) (fun _ _ => [])
section
noncomputable def cxZpc : Cx := { P := Try.prog, tys := tys, C := [(14, kszSp), (15, kszMachS)], hty := tysOk, hC := COk.cons cszSp (COk.cons cszMachS (COk.nil _)) }
theorem cxZpc_t : cxZpc.tys = tys := rfl
theorem cxZpc_c : cxZpc.C = [(14, kszSp), (15, kszMachS)] := rfl
attribute [local go_sem] cxZpc_t cxZpc_c kszSp kszMachS
theorem cszPc : Cn Try.prog 4 kszPc := by
  refine Cn.pur Try.func4 (by kernel_rfl) rfl fun d x hx => ?_
  obtain ⟨⟨⟨I, B, E⟩, T, tu, le, sl⟩, left⟩ := x
  obtain ⟨⟨hsp, hT, hTs⟩, h0, h1⟩ := hx
  have hsp2 := hsp
  obtain ⟨⟨hI, hIm⟩, hB, hE⟩ := hsp2
  simp only at hT hTs hI hIm hB hE h0 h1 ⊢
  have hu : szvPc ((I, B, E), T, tu, le, sl) left = if szvSp (I, B, E) left < 0 then -1 else szvMachS T (szvSp (I, B, E) left) := rfl
  have ha := szvSp_f (I, B, E) left h0
  rw [hu]
  refine Holds.go (c := cxZpc) Try.func4 rfl Try.results4 Try.ntmps4 (by omega) (by simp) rfl ?_
  intro X0 w0
  by_cases h5 : szvSp (I, B, E) left < 0
  · rw [if_pos h5]
    (repeat' (first | refine WP.seq ?_ | refine WP.block ?_ | ((first | refine WP.region ?_ | refine WP.condW ?_ | refine WP.ret ?_ | refine WP.exit ?_ | refine WP.skip ?_); simp only [go_sem, h5, tyAll, Nat.reduceAdd, Nat.reduceLT, Nat.reduceLeDiff, Nat.reduceEqDiff, Nat.reduceMul, Nat.reduceSub, Nat.reduceGT, reduceIte, Int.reduceNeg, Int.reduceToNat]) |  refine And.intro ?_ ?_ | intro _))
    all_goals first | omega | exact hIm _ ‹_› | exact hTs _ ‹_› | exact hsp | skip
    all_goals trace_state
  · rw [if_neg h5]
    (repeat' (first | refine WP.seq ?_ | refine WP.block ?_ | ((first | refine WP.region ?_ | refine WP.condW ?_ | refine WP.ret ?_ | refine WP.exit ?_ | refine WP.skip ?_); simp only [go_sem, h5, tyAll, Nat.reduceAdd, Nat.reduceLT, Nat.reduceLeDiff, Nat.reduceEqDiff, Nat.reduceMul, Nat.reduceSub, Nat.reduceGT, reduceIte, Int.reduceNeg, Int.reduceToNat]) |  refine And.intro ?_ ?_ | intro _))
    all_goals first | omega | exact hIm _ ‹_› | exact hTs _ ‹_› | exact hsp | (rename_i h; rw [szf_neg (szvMachS_f _) (by omega) h]) | skip
    all_goals trace_state
end
def szvSe (x : SeX) : Int → Int := szT (szvPc x.1) (szvRg x.2.2.1)
theorem szvRg_f (x : RgX) : Szf (szvRg x) := szvStr_f _
theorem szvSe_f (x : SeX) : Szf (szvSe x) := szT_f (szvPc_f _) (szvRg_f _)
def bigSe (x : SeX) : Prop := bigPc x.1 ∧ bigRg x.2.2.1
def kszSe : Ctr := pur (fun args => (seA args 0, aI args 1)) (fun x => [.agg (aggSe x.1), .v (.int .i64 x.2)]) (fun x => bigSe x.1 ∧ 0 ≤ x.2 ∧ x.2 ≤ 1048576)
  (fun _ x => .v (.int .i64 (szvSe x.1 x.2))) (fun _ _ => [])
section
attribute [local go_sem] aggSe
noncomputable def cxZse : Cx := { P := Try.prog, tys := tys, C := [(4, kszPc)], hty := tysOk, hC := COk.cons cszPc (COk.nil _) }
theorem cxZse_t : cxZse.tys = tys := rfl
theorem cxZse_c : cxZse.C = [(4, kszPc)] := rfl
attribute [local go_sem] cxZse_t cxZse_c kszPc
set_option maxHeartbeats 3000000 in
end
end
end Go.Proofs.Ytoomncljmgcidaa
/-
  DERIVED. A list that a call hands back as its own, taken as one that may only be read.
-/
namespace Go.Vc
set_option linter.unusedVariables false
def allV (rows : List (List SV)) : Prop := ∀ row ∈ rows, ∀ c ∈ row, ∃ x, c = .v x
theorem ObR.toSl {w : World} {X X' : Nat → Prop} {β : Nat → BV} {v : BV} {e s : Nat} {rows : List (List SV)} (h : ObR w X' β v (.sl e s rows)) (hX : ∀ b, v.ft b → ¬ X b) (hv : allV rows) : Rp w X (.sl s rows) v.val := by
  cases h with
  | nil e s h => subst h; exact .nil s _ _
  | sl b cap cur us hv' hh h1 h2 h3 h4 h5 h6 h7 =>
    subst hv'
    refine .sl b 0 cap us (hX b rfl) (lt_of_heap hh) h1 h4 (fun i k row c hr hc => ?_) h6 (fun i k row c hr hc => ?_)
    · simp only [World.cell?, hh, Nat.zero_add]
      exact h5 i k row c hr hc
    · obtain ⟨x, rfl⟩ := hv row (List.mem_of_getElem? hr) c (List.mem_of_getElem? hc)
      have := h7 i k row _ hr hc
      cases this
      exact .v _
section
variable {P : Program} {f : FuncId} {args : List SV} {d e s : Nat} {rows : List (List SV)}
theorem Holds.frozen (h : Holds P f args (.own d) [(d, .sl e s rows)]) (hv : allV rows) : Holds P f args (.sl s rows) [] := by
  intro w X vs hG hX hl ha
  refine (h w X vs hG hX hl ha).mono fun en w' ⟨v, β, he, hb, hβ, hR, hO, hn⟩ => ?_
  refine ⟨v, β, he, hb, hβ, ?_, ⟨fun id ob hi => (by cases hi), fun i j oi oj b hi => (by cases hi)⟩, fun id ob b hi => (by cases hi)⟩
  have := hR.own_inv; subst this
  refine .p ((hO.1 d (.sl e s rows) (by simp [lk])).toSl (fun b hb' hx => ?_) hv)
  have h1 := hn d (.sl e s rows) b (by simp [lk]) hb'
  rcases hx with hx | ⟨i, o, hi, _⟩
  · have := hX b hx; omega
  · cases hi
theorem Holds.frozenT {y : Value} (h : Holds P f args (.tup [.own d, .v y]) [(d, .sl e s rows)]) (hv : allV rows) : Holds P f args (.tup [.sl s rows, .v y]) [] := by
  intro w X vs hG hX hl ha
  refine (h w X vs hG hX hl ha).mono fun en w' ⟨v, β, he, hb, hβ, hR, hO, hn⟩ => ?_
  refine ⟨v, β, he, hb, hβ, ?_, ⟨fun id ob hi => (by cases hi), fun i j oi oj b hi => (by cases hi)⟩, fun id ob b hi => (by cases hi)⟩
  obtain ⟨us, rfl, hul, hh⟩ := hR.tup_inv
  refine .tup hul fun k c u hc hu => ?_
  match k, hc with
  | 0, hc =>
    simp at hc; subst hc
    have := (hh 0 _ u rfl hu).own_inv
    subst this
    refine .p ((hO.1 d (.sl e s rows) (by simp [lk])).toSl (fun b hb' hx => ?_) hv)
    have h1 := hn d (.sl e s rows) b (by simp [lk]) hb'
    rcases hx with hx | ⟨i, o, hi, _⟩
    · have := hX b hx; omega
    · cases hi
  | 1, hc =>
    simp at hc; subst hc
    have := (hh 1 _ u rfl hu).v_inv
    subst this; exact .p (.v _)
  | k + 2, hc => simp at hc
end
/-- the same of a struct of two lists -/
theorem Holds.frozenA {P : Program} {f : FuncId} {args : List SV} {d1 d2 e1 s1 e2 s2 : Nat} {rows1 rows2 : List (List SV)} (hd : d1 ≠ d2) (h : Holds P f args (.agg [.own d1, .own d2]) [(d1, .sl e1 s1 rows1), (d2, .sl e2 s2 rows2)]) (hv1 : allV rows1) (hv2 : allV rows2) : Holds P f args (.agg [.sl s1 rows1, .sl s2 rows2]) [] := by
  intro w X vs hG hX hl ha
  refine (h w X vs hG hX hl ha).mono fun en w' ⟨v, β, he, hb, hβ, hR, hO, hn⟩ => ?_
  refine ⟨v, β, he, hb, hβ, ?_, ⟨fun id ob hi => (by cases hi), fun i j oi oj b hi => (by cases hi)⟩, fun id ob b hi => (by cases hi)⟩
  obtain ⟨us, rfl, hul, hh⟩ := hR.agg_inv
  have l1 : lk d1 [(d1, Ob.sl e1 s1 rows1), (d2, .sl e2 s2 rows2)] = some (.sl e1 s1 rows1) := by simp [lk]
  have l2 : lk d2 [(d1, Ob.sl e1 s1 rows1), (d2, .sl e2 s2 rows2)] = some (.sl e2 s2 rows2) := by simp [lk, Ne.symm hd]
  have key : ∀ {d e s : Nat} {rows : List (List SV)}, lk d [(d1, Ob.sl e1 s1 rows1), (d2, .sl e2 s2 rows2)] = some (.sl e s rows) → allV rows → R w' (XX X β []) β (.sl s rows) (β d).val := fun {d e s rows} hl hv => by
    refine .p ((hO.1 d _ hl).toSl (fun b hb' hx => ?_) hv)
    have h1 := hn d _ b hl hb'
    rcases hx with hx | ⟨i, o, hi, _⟩
    · have := hX b hx; omega
    · cases hi
  refine .agg hul fun k c u hc hu => ?_
  match k, hc with
  | 0, hc =>
    simp at hc; subst hc
    have := (hh 0 _ u rfl hu).own_inv
    subst this; exact key l1 hv1
  | 1, hc =>
    simp at hc; subst hc
    have := (hh 1 _ u rfl hu).own_inv
    subst this; exact key l2 hv2
  | k + 2, hc => simp at hc
theorem Cn.frozenA {P : Program} {f : FuncId} {X : Type} {dec : List SV → X} {A : X → List SV} {pre : X → Prop} {e1 s1 e2 s2 : Nat} {rows1 rows2 : X → List (List SV)} (hv1 : ∀ x, allV (rows1 x)) (hv2 : ∀ x, allV (rows2 x))
    (h : Cn P f (Go.Vc.pur dec A pre (fun d _ => .agg [.own d, .own (d + 1000)]) (fun d x => [(d, .sl e1 s1 (rows1 x)), (d + 1000, .sl e2 s2 (rows2 x))]))) : Cn P f (Go.Vc.pur dec A pre (fun _ x => .agg [.sl s1 (rows1 x), .sl s2 (rows2 x)]) (fun _ _ => [])) :=
  ⟨h.call, fun d args ha => (h.holds d args ha).frozenA (by omega) (hv1 _) (hv2 _), fun _ _ _ h => h.elim⟩
theorem Cn.frozen {P : Program} {f : FuncId} {X : Type} {dec : List SV → X} {A : X → List SV} {pre : X → Prop} {e s : Nat} {rows : X → List (List SV)} (hv : ∀ x, allV (rows x))
    (h : Cn P f (Go.Vc.pur dec A pre (fun d _ => .own d) (fun d x => [(d, .sl e s (rows x))]))) : Cn P f (Go.Vc.pur dec A pre (fun _ x => .sl s (rows x)) (fun _ _ => [])) :=
  ⟨h.call, fun d args ha => (h.holds d args ha).frozen (hv _), fun _ _ _ h => h.elim⟩
theorem Cn.frozenT {P : Program} {f : FuncId} {X : Type} {dec : List SV → X} {A : X → List SV} {pre : X → Prop} {e s : Nat} {rows : X → List (List SV)} {y : X → Value} (hv : ∀ x, allV (rows x))
    (h : Cn P f (Go.Vc.pur dec A pre (fun d x => .tup [.own d, .v (y x)]) (fun d x => [(d, .sl e s (rows x))]))) : Cn P f (Go.Vc.pur dec A pre (fun _ x => .tup [.sl s (rows x), .v (y x)]) (fun _ _ => [])) :=
  ⟨h.call, fun d args ha => (h.holds d args ha).frozenT (hv _), fun _ _ _ h => h.elim⟩
end Go.Vc

/-
  DERIVED. A list that a call hands back as its own, taken as one that may only be read: its cells may be lists that are read.
-/
namespace Go.Vc
set_option linter.unusedVariables false
theorem ObR.toSlW {w : World} {X X' : Nat → Prop} {β : Nat → BV} {v : BV} {e s : Nat} {rows : List (List SV)} (h : ObR w X' β v (.sl e s rows)) (hX : ∀ b, v.ft b → ¬ X b) (hXX : ∀ b, X b → X' b) : Rp w X (.sl s rows) v.val := by
  cases h with
  | nil e s h => subst h; exact .nil s _ _
  | sl b cap cur us hv' hh h1 h2 h3 h4 h5 h6 h7 =>
    subst hv'
    refine .sl b 0 cap us (hX b rfl) (lt_of_heap hh) h1 h4 (fun i k row c hr hc => ?_) h6 (fun i k row c hr hc => (h7 i k row c hr hc).mono ⟨Nat.le_refl _, fun _ _ _ => rfl⟩ fun b _ h => hXX b h)
    simp only [World.cell?, hh, Nat.zero_add]
    exact h5 i k row c hr hc
section
variable {P : Program} {f : FuncId} {args : List SV} {d e s : Nat} {rows : List (List SV)}
theorem Holds.frozenW (h : Holds P f args (.own d) [(d, .sl e s rows)]) : Holds P f args (.sl s rows) [] := by
  intro w X vs hG hX hl ha
  refine (h w X vs hG hX hl ha).mono fun en w' ⟨v, β, he, hb, hβ, hR, hO, hn⟩ => ?_
  refine ⟨v, β, he, hb, hβ, ?_, ⟨fun id ob hi => (by cases hi), fun i j oi oj b hi => (by cases hi)⟩, fun id ob b hi => (by cases hi)⟩
  have := hR.own_inv; subst this
  refine .p ((hO.1 d (.sl e s rows) (by simp [lk])).toSlW (fun b hb' hx => ?_) (fun b hx => ?_))
  · have h1 := hn d (.sl e s rows) b (by simp [lk]) hb'
    rcases hx with hx | ⟨i, o, hi, _⟩
    · have := hX b hx; omega
    · cases hi
  · rcases hx with hx | ⟨i, o, hi, _⟩
    · exact .inl hx
    · cases hi
end
theorem Cn.frozenW {P : Program} {f : FuncId} {X : Type} {dec : List SV → X} {A : X → List SV} {pre : X → Prop} {e s : Nat} {rows : X → List (List SV)}
    (h : Cn P f (Go.Vc.pur dec A pre (fun d _ => .own d) (fun d x => [(d, .sl e s (rows x))]))) : Cn P f (Go.Vc.pur dec A pre (fun _ x => .sl s (rows x)) (fun _ _ => [])) :=
  ⟨h.call, fun d args ha => (h.holds d args ha).frozenW, fun _ _ _ h => h.elim⟩
end Go.Vc

namespace Go.Proofs.Ytoomncljmgcidaa
open Go.Vc
attribute [local go_sem] St.runR St.runW St.stepV offV St.step St.stepU St.stepG mkCond guardB St.prK St.pr St.prLen St.eff St.callE St.callD St.callF St.callL aI aB aS aR aC St.isM St.argL Ctr.pure Ctr.lend Ctr.move Ctr.isL Ctr.wri pur len lentBy St.lentV St.lent1 nthS argsR restOf obsR pairs swapL unObs backL St.resL erL SV.ren1 SV.up SV.up2 Ob.up St.fzL cellIds partIds St.intoRow SV.ownId St.fz SV.fz1 St.prep St.mvL St.mv SV.re1 rnOk St.prEq vals eqCells scEq Value.kd St.prStr St.prCut cutR St.bnd St.prMin St.bld isShift outL retL outJ oR oC oE oD SV.upq SV.isSl SV.shut St.deepK St.dpArg St.deepQ absC Ob.pl St.ev St.get St.put St.new St.kill SV.kill SV.kill1 Ob.kill St.app St.wrt St.rowsOf St.res St.killL lk er argsL SV.strip SV.need SV.share SV.share1 SV.owns SV.owns1 SV.owns2 SV.good SV.good1 SV.rok SV.rok1 SV.rok2 SV.isV SV.isV2 nodupN SV.cells SV.one SV.pur Ob.pb partsIn rowsIn splice cellsAt dstOk scal2 scal1 thenK blockK retK outK outs okC okL okA okT nilC nilL nilA nilT keepC keepL keepA keepT St.runG St.dltK St.least St.clean St.final St.hide offK badS badO SV.refs SV.leaf SV.leaf2 Ob.refs dlOk fpAt Go.Vc.cover tups SV.ofAgg St.out outC subL St.has rng wr Value.oneCell' Option.isSome_some Option.isSome_none List.nil_append Bool.false_eq_true List.map_cons List.map_nil List.all_cons List.all_nil List.length_cons List.length_nil List.drop_zero List.drop_succ_cons List.take_succ_cons List.take_zero List.drop_nil List.take_nil List.getElem?_cons_zero List.getElem?_cons_succ List.getElem?_nil List.cons_append List.nil_append List.append_nil List.append_assoc List.flatMap_cons List.flatMap_nil List.contains_cons List.contains_nil List.set_cons_zero List.set_cons_succ List.getElem?_toArray Option.getD_some Option.getD_none Option.map_some Option.map_none Option.bind_some Option.some.injEq Prod.mk.injEq if_true if_false true_and and_true and_self and_false false_and Bool.and_false Bool.false_and Bool.or_true Bool.true_or Bool.or_false Bool.false_or ne_eq not_true_eq_false not_false_eq_true decide_true decide_false List.mem_cons List.not_mem_nil List.filter_cons List.filter_nil List.any_cons List.any_nil List.isEmpty_nil List.isEmpty_cons Option.getD_none or_false false_or true_or or_true forall_eq_or_imp forall_eq reduceCtorEq exists_eq exists_eq' exists_eq_left' exists_eq_left exists_eq_right exists_eq_right' imp_self implies_true Bool.and_true Bool.true_and Bool.and_self beq_self_eq_true List.replicate_succ List.replicate_zero forall_const false_implies pickB_or pickB_and beqT beqF Int.toNat_natCast List.length_map List.length_replicate ge_iff_le gt_iff_lt decide_eq_true_eq decide_eq_false_iff_not Bool.and_eq_true Bool.or_eq_true Bool.not_eq_true' Bool.not_eq_false' condG List.toList_toArray Bool.or_eq_false_iff Bool.and_eq_false_iff Int.not_lt Int.not_le beq_iff_eq beq_eq_false_iff_ne bne_iff_ne bne_eq_false_iff_eq ne_eq Bool.not_true Bool.not_false exists_and_left
section
open Go.Vc
set_option linter.unusedSimpArgs false
set_option linter.unusedVariables false
set_option maxHeartbeats 1000000
set_option maxRecDepth 10000
attribute [local irreducible] Go.Vc.WP
attribute [local go_sem] cx0_t cx0_c
open Go.Pl
attribute [local go_sem] decI_enc decImage_enc spA decS_enc decMach_enc oneMach_f mach_eta pcA rgA seA decSymbol_enc tmA tm_eta
def lenMax : Nat := 2097152
def ktoIz : Ctr := pur (fun args => decI (aR args 0)) (fun L => [.sl 1 (L.map encI)]) (fun L => L.length ≤ 2097152) (fun _ L => .sl 1 (L.map encI)) (fun _ _ => [])
theorem ctoIz : Cn Try.prog 41 ktoIz := Cn.frozenW c15
def ktoYz : Ctr := pur (fun args => decSymbol (aR args 0)) (fun L => [.sl 3 (L.map encSymbol)]) (fun L => L.length ≤ 2097152) (fun _ L => .sl 3 (L.map encSymbol)) (fun _ _ => [])
theorem ctoYz : Cn Try.prog 78 ktoYz := Cn.frozenW ctoSymbolS
def ktoSz : Ctr := pur (fun args => decS (aR args 0)) (fun L => [.sl 1 (L.map encS)]) (fun L => L.length ≤ 2097152) (fun _ L => .sl 1 (L.map encS)) (fun _ _ => [])
def ktoImg : Ctr := pur (fun args => oneImage (aC args 0)) (fun x => [.agg [.v (.string x.code), .sl 3 (x.symbols.map encSymbol)]]) (fun x => x.symbols.length ≤ 2097152) (fun _ x => .agg [.v (.string x.code), .sl 3 (x.symbols.map encSymbol)]) (fun _ _ => [])
section
attribute [local go_sem] oneImage
noncomputable def cxTim : Cx := { P := Try.prog, tys := tys, C := [(78, ktoYz)], hty := tysOk, hC := COk.cons ctoYz (COk.nil _) }
theorem cxTim_t : cxTim.tys = tys := rfl
theorem cxTim_c : cxTim.C = [(78, ktoYz)] := rfl
attribute [local go_sem] cxTim_t cxTim_c ktoYz
theorem ctoImg : Cn Try.prog 65 ktoImg := by
  refine Cn.pur Try.func65 (by kernel_rfl) rfl fun d x hx => ?_
  obtain ⟨c, Y⟩ := x
  simp only at hx ⊢
  refine Holds.go (c := cxTim) Try.func65 rfl Try.results65 Try.ntmps65 (by omega) (by simp) rfl ?_
  intro X0 w0
  (repeat' (first | refine WP.seq ?_ | refine WP.block ?_ | ((first | refine WP.region ?_ | refine WP.condW ?_ | refine WP.ret ?_ | refine WP.exit ?_ | refine WP.skip ?_); simp only [go_sem, tyAll, Nat.reduceAdd, Nat.reduceLT, Nat.reduceLeDiff, Nat.reduceEqDiff, Nat.reduceMul, Nat.reduceSub, Nat.reduceGT, reduceIte, Int.reduceNeg, Int.reduceToNat]) |  refine And.intro ?_ ?_ | intro _))
  all_goals first | omega | exact ⟨_, _, rfl, _, _, rfl, rfl⟩ | skip
  all_goals trace_state
end
def zerImage : List SV := [.v (.string ⟨#[]⟩), .v (.slice none 0 0)]
def ktoImgO : Ctr := pur (fun args => decImage (aR args 0)) (fun L => [.sl 2 (L.map encImage)]) (fun L => L.length ≤ 2097152 ∧ ∀ x ∈ L, x.symbols.length ≤ 2097152) (fun d _ => .own d) (fun d L => [(d, .sl 93 2 (L.map encImage))])
section
attribute [local go_sem] oneImage
noncomputable def cxTis : Cx := { P := Try.prog, tys := tys, C := [(65, ktoImg)], hty := tysOk, hC := COk.cons ctoImg (COk.nil _) }
theorem cxTis_t : cxTis.tys = tys := rfl
theorem cxTis_c : cxTis.C = [(65, ktoImg)] := rfl
attribute [local go_sem] cxTis_t cxTis_c ktoImg
theorem ctoImgO : Cn Try.prog 40 ktoImgO := by
  refine Cn.pur Try.func40 (by kernel_rfl) rfl fun d x hx => ?_
  rename List Image => L
  obtain ⟨hL, hY⟩ := hx
  refine Holds.go (c := cxTis) Try.func40 rfl Try.results40 Try.ntmps40 (by omega) (by simp) rfl ?_
  intro X0 w0
  (repeat' (first | refine WP.seq ?_ | refine WP.block ?_ | ((first | refine WP.region ?_ | refine WP.condW ?_ | refine WP.ret ?_ | refine WP.exit ?_ | refine WP.skip ?_); simp only [go_sem, tyAll, Nat.reduceAdd, Nat.reduceLT, Nat.reduceLeDiff, Nat.reduceEqDiff, Nat.reduceMul, Nat.reduceSub, Nat.reduceGT, reduceIte, Int.reduceNeg, Int.reduceToNat]) |  refine And.intro ?_ ?_ | intro _))
  all_goals first | omega | skip
  refine WP.loop (fun k : Nat => ⟨[(0, .sl 2 (L.map encImage)), (3, .own 7), (4, .v (.int .i64 k))], [(7, .sl 93 2 (filled encImage zerImage L k))]⟩) (fun k => k ≤ L.length) (fun k => L.length - k) 0 (by omega) ?_ ?_
  · rw [filled_zero]; simp only [go_sem, tyAll, Nat.reduceAdd, Nat.reduceLT, Nat.reduceLeDiff, Nat.reduceEqDiff, Nat.reduceMul, Nat.reduceSub, Nat.reduceGT, reduceIte, Int.reduceNeg, Int.reduceToNat]; first | exact ⟨rfl, rfl⟩ | rfl
  intro k hk
  by_cases hlt : k < L.length
  · have h0 := hY _ (List.getElem_mem hlt)
    have h1 := rowAt_map encImage L k hlt
    have h2 := filled_len encImage zerImage L k hk
    have h3 : Go.Vc.rowAt (filled encImage zerImage L k) k = [.v (.string ⟨#[]⟩), .v (.slice none 0 0)] := filled_row encImage zerImage L k hlt
    have h4 := filled_set encImage zerImage L k hlt
    rw [encImage] at h4
    (repeat' (first | refine WP.seq ?_ | refine WP.block ?_ | ((first | refine WP.region ?_ | refine WP.condW ?_ | refine WP.ret ?_ | refine WP.exit ?_ | refine WP.skip ?_); simp only [go_sem, h1, h2, h3, h4, encImage, tyAll, Nat.reduceAdd, Nat.reduceLT, Nat.reduceLeDiff, Nat.reduceEqDiff, Nat.reduceMul, Nat.reduceSub, Nat.reduceGT, reduceIte, Int.reduceNeg, Int.reduceToNat]) |  refine And.intro ?_ ?_ | intro _))
    all_goals first | omega | exact h0 | exact ⟨k + 1, by omega, by omega, rfl, rfl⟩ | skip
    all_goals trace_state
  · have h2 := filled_len encImage zerImage L k hk
    have h5 : filled encImage zerImage L k = L.map encImage := by rw [show k = L.length by omega]; exact filled_all _ _ _
    (repeat' (first | refine WP.seq ?_ | refine WP.block ?_ | ((first | refine WP.region ?_ | refine WP.condW ?_ | refine WP.ret ?_ | refine WP.exit ?_ | refine WP.skip ?_); simp only [go_sem, h2, h5, tyAll, Nat.reduceAdd, Nat.reduceLT, Nat.reduceLeDiff, Nat.reduceEqDiff, Nat.reduceMul, Nat.reduceSub, Nat.reduceGT, reduceIte, Int.reduceNeg, Int.reduceToNat]) |  refine And.intro ?_ ?_ | intro _))
    all_goals first | omega | skip
end
end
section
open Go.Vc
set_option linter.unusedSimpArgs false
set_option linter.unusedVariables false
set_option maxHeartbeats 1000000
set_option maxRecDepth 10000
attribute [local irreducible] Go.Vc.WP
attribute [local go_sem] cx0_t cx0_c
open Go.Pl
attribute [local go_sem] decI_enc decImage_enc spA decS_enc decMach_enc oneMach_f mach_eta pcA rgA seA decSymbol_enc tmA tm_eta
def ktoImgS : Ctr := pur (fun args => decImage (aR args 0)) (fun L => [.sl 2 (L.map encImage)]) (fun L => L.length ≤ 2097152 ∧ ∀ x ∈ L, x.symbols.length ≤ 2097152) (fun _ L => .sl 2 (L.map encImage)) (fun _ _ => [])
theorem ctoImgS : Cn Try.prog 40 ktoImgS := Cn.frozenW ctoImgO
def ktoMach : Ctr := pur (fun args => oneMach (aC args 0)) (fun x => [.agg [.v (.int .i64 x.pc), .v (.int .i64 x.sp), .v (.int .i64 x.fp), .sl 1 (x.stack.map encI), .sl 1 (x.out.map encI), .v (.int .i64 x.state), .v (.int .i64 x.value)]]) (fun x => x.stack.length ≤ 2097152 ∧ x.out.length ≤ 2097152) (fun _ x => .agg [.v (.int .i64 x.pc), .v (.int .i64 x.sp), .v (.int .i64 x.fp), .sl 1 (x.stack.map encI), .sl 1 (x.out.map encI), .v (.int .i64 x.state), .v (.int .i64 x.value)]) (fun _ _ => [])
section
noncomputable def cxTma : Cx := { P := Try.prog, tys := tys, C := [(41, ktoIz)], hty := tysOk, hC := COk.cons ctoIz (COk.nil _) }
theorem cxTma_t : cxTma.tys = tys := rfl
theorem cxTma_c : cxTma.C = [(41, ktoIz)] := rfl
attribute [local go_sem] cxTma_t cxTma_c ktoIz
theorem ctoMach : Cn Try.prog 42 ktoMach := by
  refine Cn.pur Try.func42 (by kernel_rfl) rfl fun d x hx => ?_
  obtain ⟨a, b, c, s, o, d2, e2⟩ := x
  obtain ⟨hs, ho⟩ := hx
  simp only at hs ho ⊢
  refine Holds.go (c := cxTma) Try.func42 rfl Try.results42 Try.ntmps42 (by omega) (by simp) rfl ?_
  intro X0 w0
  (repeat' (first | refine WP.seq ?_ | refine WP.block ?_ | ((first | refine WP.region ?_ | refine WP.condW ?_ | refine WP.ret ?_ | refine WP.exit ?_ | refine WP.skip ?_); simp only [go_sem, tyAll, Nat.reduceAdd, Nat.reduceLT, Nat.reduceLeDiff, Nat.reduceEqDiff, Nat.reduceMul, Nat.reduceSub, Nat.reduceGT, reduceIte, Int.reduceNeg, Int.reduceToNat]) |  refine And.intro ?_ ?_ | intro _))
  all_goals first | omega | exact ⟨_, _, _, _, _, _, _, rfl⟩ | exact ⟨_, _, rfl, _, _, rfl, rfl⟩ | skip
  all_goals trace_state
end
def zerMach : List SV := [.v (.int .i64 0), .v (.int .i64 0), .v (.int .i64 0), .v (.slice none 0 0), .v (.slice none 0 0), .v (.int .i64 0), .v (.int .i64 0)]
def shMach (x : Mach) : Prop := x.stack.length ≤ 2097152 ∧ x.out.length ≤ 2097152
def ktoMachO : Ctr := pur (fun args => decMach (aR args 0)) (fun L => [.sl 7 (L.map encMach)]) (fun L => L.length ≤ 1048576 ∧ ∀ x ∈ L, shMach x) (fun d _ => .own d) (fun d L => [(d, .sl 72 7 (L.map encMach))])
section
attribute [local go_sem] oneMach
noncomputable def cxTms : Cx := { P := Try.prog, tys := tys, C := [(42, ktoMach)], hty := tysOk, hC := COk.cons ctoMach (COk.nil _) }
theorem cxTms_t : cxTms.tys = tys := rfl
theorem cxTms_c : cxTms.C = [(42, ktoMach)] := rfl
attribute [local go_sem] cxTms_t cxTms_c ktoMach
set_option maxHeartbeats 3000000 in
theorem ctoMachO : Cn Try.prog 19 ktoMachO := by
  refine Cn.pur Try.func19 (by kernel_rfl) rfl fun d x hx => ?_
  rename List Mach => L
  obtain ⟨hL, hY⟩ := hx
  refine Holds.go (c := cxTms) Try.func19 rfl Try.results19 Try.ntmps19 (by omega) (by simp) rfl ?_
  intro X0 w0
  (repeat' (first | refine WP.seq ?_ | refine WP.block ?_ | ((first | refine WP.region ?_ | refine WP.condW ?_ | refine WP.ret ?_ | refine WP.exit ?_ | refine WP.skip ?_); simp only [go_sem, tyAll, Nat.reduceAdd, Nat.reduceLT, Nat.reduceLeDiff, Nat.reduceEqDiff, Nat.reduceMul, Nat.reduceSub, Nat.reduceGT, reduceIte, Int.reduceNeg, Int.reduceToNat]) |  refine And.intro ?_ ?_ | intro _))
  all_goals first | omega | skip
  refine WP.loop (fun k : Nat => ⟨[(0, .sl 7 (L.map encMach)), (3, .own 7), (4, .v (.int .i64 k))], [(7, .sl 72 7 (filled encMach zerMach L k))]⟩) (fun k => k ≤ L.length) (fun k => L.length - k) 0 (by omega) ?_ ?_
  · rw [filled_zero]; simp only [go_sem, tyAll, Nat.reduceAdd, Nat.reduceLT, Nat.reduceLeDiff, Nat.reduceEqDiff, Nat.reduceMul, Nat.reduceSub, Nat.reduceGT, reduceIte, Int.reduceNeg, Int.reduceToNat]; first | exact ⟨rfl, rfl⟩ | rfl
  intro k hk
  by_cases hlt : k < L.length
  · have h0 := (hY _ (List.getElem_mem hlt)).1
    have h0' := (hY _ (List.getElem_mem hlt)).2
    have h1 := rowAt_map encMach L k hlt
    have h2 := filled_len encMach zerMach L k hk
    have h3 : Go.Vc.rowAt (filled encMach zerMach L k) k = [.v (.int .i64 0), .v (.int .i64 0), .v (.int .i64 0), .v (.slice none 0 0), .v (.slice none 0 0), .v (.int .i64 0), .v (.int .i64 0)] := filled_row encMach zerMach L k hlt
    have h4 := filled_set encMach zerMach L k hlt
    rw [encMach] at h4
    (repeat' (first | refine WP.seq ?_ | refine WP.block ?_ | ((first | refine WP.region ?_ | refine WP.condW ?_ | refine WP.ret ?_ | refine WP.exit ?_ | refine WP.skip ?_); simp only [go_sem, h1, h2, h3, h4, encMach, tyAll, Nat.reduceAdd, Nat.reduceLT, Nat.reduceLeDiff, Nat.reduceEqDiff, Nat.reduceMul, Nat.reduceSub, Nat.reduceGT, reduceIte, Int.reduceNeg, Int.reduceToNat]) |  refine And.intro ?_ ?_ | intro _))
    all_goals first | omega | exact h0 | exact h0' | exact ⟨k + 1, by omega, by omega, rfl, rfl⟩ | skip
    all_goals trace_state
  · have h2 := filled_len encMach zerMach L k hk
    have h5 : filled encMach zerMach L k = L.map encMach := by rw [show k = L.length by omega]; exact filled_all _ _ _
    (repeat' (first | refine WP.seq ?_ | refine WP.block ?_ | ((first | refine WP.region ?_ | refine WP.condW ?_ | refine WP.ret ?_ | refine WP.exit ?_ | refine WP.skip ?_); simp only [go_sem, h2, h5, tyAll, Nat.reduceAdd, Nat.reduceLT, Nat.reduceLeDiff, Nat.reduceEqDiff, Nat.reduceMul, Nat.reduceSub, Nat.reduceGT, reduceIte, Int.reduceNeg, Int.reduceToNat]) |  refine And.intro ?_ ?_ | intro _))
    all_goals first | omega | skip
end
def ktoMachS : Ctr := pur (fun args => decMach (aR args 0)) (fun L => [.sl 7 (L.map encMach)]) (fun L => L.length ≤ 1048576 ∧ ∀ x ∈ L, shMach x) (fun _ L => .sl 7 (L.map encMach)) (fun _ _ => [])
theorem ctoMachS : Cn Try.prog 19 ktoMachS := Cn.frozenW ctoMachO
def shSp (x : SpX) : Prop := (x.1.length ≤ 2097152 ∧ ∀ i ∈ x.1, i.symbols.length ≤ 2097152) ∧ x.2.1.length ≤ 2097152 ∧ x.2.2.length ≤ 2097152
def ktoSp : Ctr := pur (fun args => spA args 0) (fun x => [.agg [.sl 2 (x.1.map encImage), .sl 1 (x.2.1.map encI), .sl 1 (x.2.2.map encI)]]) shSp (fun _ x => .agg [.sl 2 (x.1.map encImage), .sl 1 (x.2.1.map encI), .sl 1 (x.2.2.map encI)]) (fun _ _ => [])
section
noncomputable def cxTsp : Cx := { P := Try.prog, tys := tys, C := [(41, ktoIz), (40, ktoImgS)], hty := tysOk, hC := COk.cons ctoIz (COk.cons ctoImgS (COk.nil _)) }
theorem cxTsp_t : cxTsp.tys = tys := rfl
theorem cxTsp_c : cxTsp.C = [(41, ktoIz), (40, ktoImgS)] := rfl
attribute [local go_sem] cxTsp_t cxTsp_c ktoIz ktoImgS
theorem ctoSp : Cn Try.prog 18 ktoSp := by
  refine Cn.pur Try.func18 (by kernel_rfl) rfl fun d x hx => ?_
  obtain ⟨I, B, E⟩ := x
  obtain ⟨⟨hI, hIm⟩, hB, hE⟩ := hx
  simp only at hI hIm hB hE ⊢
  refine Holds.go (c := cxTsp) Try.func18 rfl Try.results18 Try.ntmps18 (by omega) (by simp) rfl ?_
  intro X0 w0
  (repeat' (first | refine WP.seq ?_ | refine WP.block ?_ | ((first | refine WP.region ?_ | refine WP.condW ?_ | refine WP.ret ?_ | refine WP.exit ?_ | refine WP.skip ?_); simp only [go_sem, tyAll, Nat.reduceAdd, Nat.reduceLT, Nat.reduceLeDiff, Nat.reduceEqDiff, Nat.reduceMul, Nat.reduceSub, Nat.reduceGT, reduceIte, Int.reduceNeg, Int.reduceToNat]) |  refine And.intro ?_ ?_ | intro _))
  all_goals first | omega | exact hIm _ ‹_› | exact ⟨_, _, _, rfl⟩ | exact ⟨_, _, rfl, _, _, rfl, rfl⟩ | skip
  all_goals trace_state
end
def shPc (x : PcX) : Prop := shSp x.1 ∧ x.2.1.length ≤ 1048576 ∧ ∀ m ∈ x.2.1, shMach m
def aggPc (x : PcX) : List SV := [.sl 2 (x.1.1.map encImage), .sl 1 (x.1.2.1.map encI), .sl 1 (x.1.2.2.map encI), .sl 7 (x.2.1.map encMach), .v (.int .i64 x.2.2.1), .v (.int .i64 x.2.2.2.1), .v (.int .i64 x.2.2.2.2)]
def ktoPc : Ctr := pur (fun args => pcA args 0) (fun x => [.agg (aggPc x)]) shPc (fun _ x => .agg (aggPc x)) (fun _ _ => [])
section
attribute [local go_sem] aggPc
attribute [local irreducible] shMach
noncomputable def cxTpc : Cx := { P := Try.prog, tys := tys, C := [(18, ktoSp), (19, ktoMachS)], hty := tysOk, hC := COk.cons ctoSp (COk.cons ctoMachS (COk.nil _)) }
theorem cxTpc_t : cxTpc.tys = tys := rfl
theorem cxTpc_c : cxTpc.C = [(18, ktoSp), (19, ktoMachS)] := rfl
attribute [local go_sem] cxTpc_t cxTpc_c ktoSp ktoMachS
theorem ctoPc : Cn Try.prog 6 ktoPc := by
  refine Cn.pur Try.func6 (by kernel_rfl) rfl fun d x hx => ?_
  obtain ⟨⟨I, B, E⟩, T, tu, le, sl⟩ := x
  obtain ⟨hsp, hT, hTs⟩ := hx
  have hsp2 := hsp
  obtain ⟨⟨hI, hIm⟩, hB, hE⟩ := hsp2
  simp only [aggPc] at hT hTs hI hIm hB hE ⊢
  refine Holds.go (c := cxTpc) Try.func6 rfl Try.results6 Try.ntmps6 (by omega) (by simp) rfl ?_
  intro X0 w0
  (repeat' (first | refine WP.seq ?_ | refine WP.block ?_ | ((first | refine WP.region ?_ | refine WP.condW ?_ | refine WP.ret ?_ | refine WP.exit ?_ | refine WP.skip ?_); simp only [go_sem, tyAll, Nat.reduceAdd, Nat.reduceLT, Nat.reduceLeDiff, Nat.reduceEqDiff, Nat.reduceMul, Nat.reduceSub, Nat.reduceGT, reduceIte, Int.reduceNeg, Int.reduceToNat]) |  refine And.intro ?_ ?_ | intro _))
  all_goals first | omega | exact hIm _ ‹_› | exact hTs _ ‹_› | exact hsp | exact ⟨_, _, _, _, _, _, _, rfl⟩ | exact ⟨_, _, rfl, _, _, rfl, rfl⟩ | skip
  all_goals trace_state
end
def aggTm (x : Tm) : List SV := [.v (.int .i64 x.period), .v (.int .i64 x.spread), .v (.int .i64 x.left), .v (.int .i64 x.state)]
def ktoTm : Ctr := pur (fun args => tmA args 0) (fun x => [.agg (aggTm x)]) (fun _ => True) (fun _ x => .agg (aggTm x)) (fun _ _ => [])
section
attribute [local go_sem] aggTm
noncomputable def cxTti : Cx := { P := Try.prog, tys := tys, C := [], hty := tysOk, hC := COk.nil _ }
theorem cxTti_t : cxTti.tys = tys := rfl
theorem cxTti_c : cxTti.C = [] := rfl
attribute [local go_sem] cxTti_t cxTti_c 
theorem ctoTm : Cn Try.prog 7 ktoTm := by
  refine Cn.pur Try.func7 (by kernel_rfl) rfl fun d x hx => ?_
  obtain ⟨p, q, l, st⟩ := x
  simp only [aggTm]
  refine Holds.go (c := cxTti) Try.func7 rfl Try.results7 Try.ntmps7 (by omega) (by simp) rfl ?_
  intro X0 w0
  (repeat' (first | refine WP.seq ?_ | refine WP.block ?_ | ((first | refine WP.region ?_ | refine WP.condW ?_ | refine WP.ret ?_ | refine WP.exit ?_ | refine WP.skip ?_); simp only [go_sem, tyAll, Nat.reduceAdd, Nat.reduceLT, Nat.reduceLeDiff, Nat.reduceEqDiff, Nat.reduceMul, Nat.reduceSub, Nat.reduceGT, reduceIte, Int.reduceNeg, Int.reduceToNat]) |  refine And.intro ?_ ?_ | intro _))
  all_goals first | omega | exact ⟨_, _, _, _, rfl⟩ | exact ⟨_, _, rfl, _, _, rfl, rfl⟩ | skip
  all_goals trace_state
end
def aggRg (x : RgX) : List SV := [.v (.int .i64 x.1), .sl 1 (x.2.1.map encS), .v (.int .i64 x.2.2.1), .v (.int .i64 x.2.2.2)]
def ktoRg : Ctr := pur (fun args => rgA args 0) (fun x => [.agg (aggRg x)]) (fun x => x.2.1.length ≤ 2097152) (fun _ x => .agg (aggRg x)) (fun _ _ => [])
section
attribute [local go_sem] aggRg
noncomputable def cxTrg : Cx := { P := Try.prog, tys := tys, C := [], hty := tysOk, hC := COk.nil _ }
theorem cxTrg_t : cxTrg.tys = tys := rfl
theorem cxTrg_c : cxTrg.C = [] := rfl
attribute [local go_sem] cxTrg_t cxTrg_c 
end
def shSe (x : SeX) : Prop := shPc x.1 ∧ x.2.2.1.2.1.length ≤ 2097152
def ktoSe : Ctr := pur (fun args => seA args 0) (fun x => [.agg (aggSe x)]) shSe (fun _ x => .agg (aggSe x)) (fun _ _ => [])
section
attribute [local go_sem] aggSe aggPc aggTm aggRg
attribute [local irreducible] shMach
noncomputable def cxTse : Cx := { P := Try.prog, tys := tys, C := [(6, ktoPc), (7, ktoTm)], hty := tysOk, hC := COk.cons ctoPc (COk.cons ctoTm (COk.nil _)) }
theorem cxTse_t : cxTse.tys = tys := rfl
theorem cxTse_c : cxTse.C = [(6, ktoPc), (7, ktoTm)] := rfl
attribute [local go_sem] cxTse_t cxTse_c ktoPc ktoTm
set_option maxHeartbeats 3000000 in
end
end
section
open Go.Vc
set_option linter.unusedSimpArgs false
set_option linter.unusedVariables false
set_option maxHeartbeats 1000000
set_option maxRecDepth 10000
attribute [local irreducible] Go.Vc.WP
attribute [local go_sem] cx0_t cx0_c
open Go.Pl
attribute [local go_sem] decI_enc decImage_enc spA decS_enc decMach_enc oneMach_f mach_eta pcA rgA seA decSymbol_enc tmA tm_eta
def shImg (x : Image) : Prop := x.symbols.length ≤ 2097152
def kqImg : Ctr := pur (fun args => oneImage (aC args 0)) (fun x => [.agg [.v (.string x.code), .sl 3 (x.symbols.map encSymbol)], .agg [.v (.string x.code), .sl 3 (x.symbols.map encSymbol)]]) shImg (fun _ _ => .v (.bool true)) (fun _ _ => [])
section
attribute [local go_sem] oneImage
noncomputable def cxQim : Cx := { P := Try.prog, tys := tys, C := [(81, keqSymbolS)], hty := tysOk, hC := COk.cons ceqSymbolS (COk.nil _) }
theorem cxQim_t : cxQim.tys = tys := rfl
theorem cxQim_c : cxQim.C = [(81, keqSymbolS)] := rfl
attribute [local go_sem] cxQim_t cxQim_c keqSymbolS
theorem cqImg : Cn Try.prog 69 kqImg := by
  refine Cn.pur Try.func69 (by kernel_rfl) rfl fun d x hx => ?_
  obtain ⟨c, Y⟩ := x
  unfold shImg at hx
  simp only at hx ⊢
  refine Holds.go (c := cxQim) Try.func69 rfl Try.results69 Try.ntmps69 (by omega) (by simp) rfl ?_
  intro X0 w0
  (repeat' (first | refine WP.seq ?_ | refine WP.block ?_ | ((first | refine WP.region ?_ | refine WP.condW ?_ | refine WP.ret ?_ | refine WP.exit ?_ | refine WP.skip ?_); simp only [go_sem, tyAll, Nat.reduceAdd, Nat.reduceLT, Nat.reduceLeDiff, Nat.reduceEqDiff, Nat.reduceMul, Nat.reduceSub, Nat.reduceGT, reduceIte, Int.reduceNeg, Int.reduceToNat]) |  refine And.intro ?_ ?_ | intro _))
  all_goals first | omega | skip
  all_goals trace_state
end
def kqMach : Ctr := pur (fun args => oneMach (aC args 0)) (fun x => [.agg [.v (.int .i64 x.pc), .v (.int .i64 x.sp), .v (.int .i64 x.fp), .sl 1 (x.stack.map encI), .sl 1 (x.out.map encI), .v (.int .i64 x.state), .v (.int .i64 x.value)], .agg [.v (.int .i64 x.pc), .v (.int .i64 x.sp), .v (.int .i64 x.fp), .sl 1 (x.stack.map encI), .sl 1 (x.out.map encI), .v (.int .i64 x.state), .v (.int .i64 x.value)]]) shMach (fun _ _ => .v (.bool true)) (fun _ _ => [])
section
noncomputable def cxQma : Cx := { P := Try.prog, tys := tys, C := [(52, k17)], hty := tysOk, hC := COk.cons c17 (COk.nil _) }
theorem cxQma_t : cxQma.tys = tys := rfl
theorem cxQma_c : cxQma.C = [(52, k17)] := rfl
attribute [local go_sem] cxQma_t cxQma_c k17
theorem cqMach : Cn Try.prog 53 kqMach := by
  refine Cn.pur Try.func53 (by kernel_rfl) rfl fun d x hx => ?_
  obtain ⟨a, b, c, s, o, d2, e2⟩ := x
  unfold shMach at hx
  obtain ⟨hs, ho⟩ := hx
  simp only at hs ho ⊢
  refine Holds.go (c := cxQma) Try.func53 rfl Try.results53 Try.ntmps53 (by omega) (by simp) rfl ?_
  intro X0 w0
  (repeat' (first | refine WP.seq ?_ | refine WP.block ?_ | ((first | refine WP.region ?_ | refine WP.condW ?_ | refine WP.ret ?_ | refine WP.exit ?_ | refine WP.skip ?_); simp only [go_sem, tyAll, Nat.reduceAdd, Nat.reduceLT, Nat.reduceLeDiff, Nat.reduceEqDiff, Nat.reduceMul, Nat.reduceSub, Nat.reduceGT, reduceIte, Int.reduceNeg, Int.reduceToNat]) |  refine And.intro ?_ ?_ | intro _))
  all_goals first | omega | skip
  all_goals trace_state
end

def kqImgS : Ctr := pur (fun args => decImage (aR args 0)) (fun L => [.sl 2 (L.map encImage), .sl 2 (L.map encImage)]) (fun L => L.length ≤ 2097152 ∧ ∀ x ∈ L, shImg x) (fun _ _ => .v (.bool true)) (fun _ _ => [])
section
attribute [local go_sem] oneImage
attribute [local irreducible] shImg
noncomputable def cxQis : Cx := { P := Try.prog, tys := tys, C := [(69, kqImg)], hty := tysOk, hC := COk.cons cqImg (COk.nil _) }
theorem cxQis_t : cxQis.tys = tys := rfl
theorem cxQis_c : cxQis.C = [(69, kqImg)] := rfl
attribute [local go_sem] cxQis_t cxQis_c kqImg
theorem cqImgS : Cn Try.prog 51 kqImgS := by
  refine Cn.pur Try.func51 (by kernel_rfl) rfl fun d x hx => ?_
  rename List Image => L
  obtain ⟨hL, hY⟩ := hx
  refine Holds.go (c := cxQis) Try.func51 rfl Try.results51 Try.ntmps51 (by omega) (by simp) rfl ?_
  intro X0 w0
  (repeat' (first | refine WP.seq ?_ | refine WP.block ?_ | ((first | refine WP.region ?_ | refine WP.condW ?_ | refine WP.ret ?_ | refine WP.exit ?_ | refine WP.skip ?_); simp only [go_sem, tyAll, Nat.reduceAdd, Nat.reduceLT, Nat.reduceLeDiff, Nat.reduceEqDiff, Nat.reduceMul, Nat.reduceSub, Nat.reduceGT, reduceIte, Int.reduceNeg, Int.reduceToNat]) | ((first | refine WP.drawW 10 (by decide +kernel) (by kernel_rfl) ?_); simp only [go_sem, tyAll, Nat.reduceAdd, Nat.reduceLT, Nat.reduceLeDiff, Nat.reduceEqDiff, Nat.reduceMul, Nat.reduceSub, Nat.reduceGT, reduceIte, Int.reduceNeg, Int.reduceToNat]) |  refine And.intro ?_ ?_ | intro _))
  all_goals first | omega | skip
  refine WP.loop (fun k : Nat => ⟨[(0, .sl 2 (L.map encImage)), (1, .sl 2 (L.map encImage)), (5, .v (.int .i64 k))], []⟩) (fun k => k ≤ L.length) (fun k => L.length - k) 0 (by simp) ?_ ?_
  · simp only [go_sem, tyAll, Nat.reduceAdd, Nat.reduceLT, Nat.reduceLeDiff, Nat.reduceEqDiff, Nat.reduceMul, Nat.reduceSub, Nat.reduceGT, reduceIte, Int.reduceNeg, Int.reduceToNat]; first | exact ⟨rfl, rfl⟩ | rfl
  intro k hk
  by_cases hlt : k < L.length
  · have h1 := rowAt_map encImage L k hlt
    have h0 := hY _ (List.getElem_mem hlt)
    (repeat' (first | refine WP.seq ?_ | refine WP.block ?_ | ((first | refine WP.region ?_ | refine WP.condW ?_ | refine WP.ret ?_ | refine WP.exit ?_ | refine WP.skip ?_); simp only [go_sem, h1, encImage, tyAll, Nat.reduceAdd, Nat.reduceLT, Nat.reduceLeDiff, Nat.reduceEqDiff, Nat.reduceMul, Nat.reduceSub, Nat.reduceGT, reduceIte, Int.reduceNeg, Int.reduceToNat]) | ((first | refine WP.drawW 10 (by decide +kernel) (by kernel_rfl) ?_); simp only [go_sem, h1, encImage, tyAll, Nat.reduceAdd, Nat.reduceLT, Nat.reduceLeDiff, Nat.reduceEqDiff, Nat.reduceMul, Nat.reduceSub, Nat.reduceGT, reduceIte, Int.reduceNeg, Int.reduceToNat]) |  refine And.intro ?_ ?_ | intro _))
    all_goals first | omega | exact h0 | exact ⟨k + 1, by omega, by omega, rfl⟩ | exact ⟨k + 1, by omega, by omega, rfl, rfl⟩ | skip
    all_goals trace_state
  · (repeat' (first | refine WP.seq ?_ | refine WP.block ?_ | ((first | refine WP.region ?_ | refine WP.condW ?_ | refine WP.ret ?_ | refine WP.exit ?_ | refine WP.skip ?_); simp only [go_sem, tyAll, Nat.reduceAdd, Nat.reduceLT, Nat.reduceLeDiff, Nat.reduceEqDiff, Nat.reduceMul, Nat.reduceSub, Nat.reduceGT, reduceIte, Int.reduceNeg, Int.reduceToNat]) | ((first | refine WP.drawW 10 (by decide +kernel) (by kernel_rfl) ?_); simp only [go_sem, tyAll, Nat.reduceAdd, Nat.reduceLT, Nat.reduceLeDiff, Nat.reduceEqDiff, Nat.reduceMul, Nat.reduceSub, Nat.reduceGT, reduceIte, Int.reduceNeg, Int.reduceToNat]) |  refine And.intro ?_ ?_ | intro _))
    all_goals first | omega | skip
    all_goals trace_state
end

def kqMachS : Ctr := pur (fun args => decMach (aR args 0)) (fun L => [.sl 7 (L.map encMach), .sl 7 (L.map encMach)]) (fun L => L.length ≤ 1048576 ∧ ∀ x ∈ L, shMach x) (fun _ _ => .v (.bool true)) (fun _ _ => [])
section
attribute [local go_sem] oneMach
attribute [local irreducible] shMach
noncomputable def cxQms : Cx := { P := Try.prog, tys := tys, C := [(53, kqMach)], hty := tysOk, hC := COk.cons cqMach (COk.nil _) }
theorem cxQms_t : cxQms.tys = tys := rfl
theorem cxQms_c : cxQms.C = [(53, kqMach)] := rfl
attribute [local go_sem] cxQms_t cxQms_c kqMach
theorem cqMachS : Cn Try.prog 25 kqMachS := by
  refine Cn.pur Try.func25 (by kernel_rfl) rfl fun d x hx => ?_
  rename List Mach => L
  obtain ⟨hL, hY⟩ := hx
  refine Holds.go (c := cxQms) Try.func25 rfl Try.results25 Try.ntmps25 (by omega) (by simp) rfl ?_
  intro X0 w0
  (repeat' (first | refine WP.seq ?_ | refine WP.block ?_ | ((first | refine WP.region ?_ | refine WP.condW ?_ | refine WP.ret ?_ | refine WP.exit ?_ | refine WP.skip ?_); simp only [go_sem, tyAll, Nat.reduceAdd, Nat.reduceLT, Nat.reduceLeDiff, Nat.reduceEqDiff, Nat.reduceMul, Nat.reduceSub, Nat.reduceGT, reduceIte, Int.reduceNeg, Int.reduceToNat]) | ((first | refine WP.drawW 10 (by decide +kernel) (by kernel_rfl) ?_); simp only [go_sem, tyAll, Nat.reduceAdd, Nat.reduceLT, Nat.reduceLeDiff, Nat.reduceEqDiff, Nat.reduceMul, Nat.reduceSub, Nat.reduceGT, reduceIte, Int.reduceNeg, Int.reduceToNat]) |  refine And.intro ?_ ?_ | intro _))
  all_goals first | omega | skip
  refine WP.loop (fun k : Nat => ⟨[(0, .sl 7 (L.map encMach)), (1, .sl 7 (L.map encMach)), (5, .v (.int .i64 k))], []⟩) (fun k => k ≤ L.length) (fun k => L.length - k) 0 (by simp) ?_ ?_
  · simp only [go_sem, tyAll, Nat.reduceAdd, Nat.reduceLT, Nat.reduceLeDiff, Nat.reduceEqDiff, Nat.reduceMul, Nat.reduceSub, Nat.reduceGT, reduceIte, Int.reduceNeg, Int.reduceToNat]; first | exact ⟨rfl, rfl⟩ | rfl
  intro k hk
  by_cases hlt : k < L.length
  · have h1 := rowAt_map encMach L k hlt
    have h0 := hY _ (List.getElem_mem hlt)
    (repeat' (first | refine WP.seq ?_ | refine WP.block ?_ | ((first | refine WP.region ?_ | refine WP.condW ?_ | refine WP.ret ?_ | refine WP.exit ?_ | refine WP.skip ?_); simp only [go_sem, h1, encMach, tyAll, Nat.reduceAdd, Nat.reduceLT, Nat.reduceLeDiff, Nat.reduceEqDiff, Nat.reduceMul, Nat.reduceSub, Nat.reduceGT, reduceIte, Int.reduceNeg, Int.reduceToNat]) | ((first | refine WP.drawW 10 (by decide +kernel) (by kernel_rfl) ?_); simp only [go_sem, h1, encMach, tyAll, Nat.reduceAdd, Nat.reduceLT, Nat.reduceLeDiff, Nat.reduceEqDiff, Nat.reduceMul, Nat.reduceSub, Nat.reduceGT, reduceIte, Int.reduceNeg, Int.reduceToNat]) |  refine And.intro ?_ ?_ | intro _))
    all_goals first | omega | exact h0 | exact ⟨k + 1, by omega, by omega, rfl⟩ | exact ⟨k + 1, by omega, by omega, rfl, rfl⟩ | skip
    all_goals trace_state
  · (repeat' (first | refine WP.seq ?_ | refine WP.block ?_ | ((first | refine WP.region ?_ | refine WP.condW ?_ | refine WP.ret ?_ | refine WP.exit ?_ | refine WP.skip ?_); simp only [go_sem, tyAll, Nat.reduceAdd, Nat.reduceLT, Nat.reduceLeDiff, Nat.reduceEqDiff, Nat.reduceMul, Nat.reduceSub, Nat.reduceGT, reduceIte, Int.reduceNeg, Int.reduceToNat]) | ((first | refine WP.drawW 10 (by decide +kernel) (by kernel_rfl) ?_); simp only [go_sem, tyAll, Nat.reduceAdd, Nat.reduceLT, Nat.reduceLeDiff, Nat.reduceEqDiff, Nat.reduceMul, Nat.reduceSub, Nat.reduceGT, reduceIte, Int.reduceNeg, Int.reduceToNat]) |  refine And.intro ?_ ?_ | intro _))
    all_goals first | omega | skip
    all_goals trace_state
end

def kqSp : Ctr := pur (fun args => spA args 0) (fun x => [.agg [.sl 2 (x.1.map encImage), .sl 1 (x.2.1.map encI), .sl 1 (x.2.2.map encI)], .agg [.sl 2 (x.1.map encImage), .sl 1 (x.2.1.map encI), .sl 1 (x.2.2.map encI)]]) shSp (fun _ _ => .v (.bool true)) (fun _ _ => [])
section
attribute [local irreducible] shImg
noncomputable def cxQsp : Cx := { P := Try.prog, tys := tys, C := [(52, k17), (51, kqImgS)], hty := tysOk, hC := COk.cons c17 (COk.cons cqImgS (COk.nil _)) }
theorem cxQsp_t : cxQsp.tys = tys := rfl
theorem cxQsp_c : cxQsp.C = [(52, k17), (51, kqImgS)] := rfl
attribute [local go_sem] cxQsp_t cxQsp_c k17 kqImgS
theorem cqSp : Cn Try.prog 24 kqSp := by
  refine Cn.pur Try.func24 (by kernel_rfl) rfl fun d x hx => ?_
  obtain ⟨I, B, E⟩ := x
  obtain ⟨⟨hI, hIm⟩, hB, hE⟩ := hx
  have hIm2 : ∀ i ∈ I, shImg i := fun i hi => by unfold shImg; exact hIm i hi
  simp only at hI hIm hB hE ⊢
  refine Holds.go (c := cxQsp) Try.func24 rfl Try.results24 Try.ntmps24 (by omega) (by simp) rfl ?_
  intro X0 w0
  (repeat' (first | refine WP.seq ?_ | refine WP.block ?_ | ((first | refine WP.region ?_ | refine WP.condW ?_ | refine WP.ret ?_ | refine WP.exit ?_ | refine WP.skip ?_); simp only [go_sem, tyAll, Nat.reduceAdd, Nat.reduceLT, Nat.reduceLeDiff, Nat.reduceEqDiff, Nat.reduceMul, Nat.reduceSub, Nat.reduceGT, reduceIte, Int.reduceNeg, Int.reduceToNat]) |  refine And.intro ?_ ?_ | intro _))
  all_goals first | omega | exact hIm2 _ ‹_› | skip
  all_goals trace_state
end
def kqPc : Ctr := pur (fun args => pcA args 0) (fun x => [.agg (aggPc x), .agg (aggPc x)]) shPc (fun _ _ => .v (.bool true)) (fun _ _ => [])
section
attribute [local go_sem] aggPc
attribute [local irreducible] shMach
noncomputable def cxQpc : Cx := { P := Try.prog, tys := tys, C := [(24, kqSp), (25, kqMachS)], hty := tysOk, hC := COk.cons cqSp (COk.cons cqMachS (COk.nil _)) }
theorem cxQpc_t : cxQpc.tys = tys := rfl
theorem cxQpc_c : cxQpc.C = [(24, kqSp), (25, kqMachS)] := rfl
attribute [local go_sem] cxQpc_t cxQpc_c kqSp kqMachS
set_option maxHeartbeats 3000000 in
theorem cqPc : Cn Try.prog 10 kqPc := by
  refine Cn.pur Try.func10 (by kernel_rfl) rfl fun d x hx => ?_
  obtain ⟨⟨I, B, E⟩, T, tu, le, sl⟩ := x
  obtain ⟨hsp, hT, hTs⟩ := hx
  have hsp2 := hsp
  obtain ⟨⟨hI, hIm⟩, hB, hE⟩ := hsp2
  simp only [aggPc] at hT hTs hI hIm hB hE ⊢
  refine Holds.go (c := cxQpc) Try.func10 rfl Try.results10 Try.ntmps10 (by omega) (by simp) rfl ?_
  intro X0 w0
  (repeat' (first | refine WP.seq ?_ | refine WP.block ?_ | ((first | refine WP.region ?_ | refine WP.condW ?_ | refine WP.ret ?_ | refine WP.exit ?_ | refine WP.skip ?_); simp only [go_sem, tyAll, Nat.reduceAdd, Nat.reduceLT, Nat.reduceLeDiff, Nat.reduceEqDiff, Nat.reduceMul, Nat.reduceSub, Nat.reduceGT, reduceIte, Int.reduceNeg, Int.reduceToNat]) |  refine And.intro ?_ ?_ | intro _))
  all_goals first | omega | exact hIm _ ‹_› | exact hTs _ ‹_› | exact hsp | skip
  all_goals trace_state
end
def kqTm : Ctr := pur (fun args => tmA args 0) (fun x => [.agg (aggTm x), .agg (aggTm x)]) (fun _ => True) (fun _ _ => .v (.bool true)) (fun _ _ => [])
section
attribute [local go_sem] aggTm
noncomputable def cxQti : Cx := { P := Try.prog, tys := tys, C := [], hty := tysOk, hC := COk.nil _ }
theorem cxQti_t : cxQti.tys = tys := rfl
theorem cxQti_c : cxQti.C = [] := rfl
attribute [local go_sem] cxQti_t cxQti_c 
theorem cqTm : Cn Try.prog 22 kqTm := by
  refine Cn.pur Try.func22 (by kernel_rfl) rfl fun d x hx => ?_
  obtain ⟨p, q, l, st⟩ := x
  simp only [aggTm]
  refine Holds.go (c := cxQti) Try.func22 rfl Try.results22 Try.ntmps22 (by omega) (by simp) rfl ?_
  intro X0 w0
  (repeat' (first | refine WP.seq ?_ | refine WP.block ?_ | ((first | refine WP.region ?_ | refine WP.condW ?_ | refine WP.ret ?_ | refine WP.exit ?_ | refine WP.skip ?_); simp only [go_sem, tyAll, Nat.reduceAdd, Nat.reduceLT, Nat.reduceLeDiff, Nat.reduceEqDiff, Nat.reduceMul, Nat.reduceSub, Nat.reduceGT, reduceIte, Int.reduceNeg, Int.reduceToNat]) |  refine And.intro ?_ ?_ | intro _))
  all_goals first | omega | skip
  all_goals trace_state
end
def kqStr : Ctr := pur (fun args => (decS (aR args 0), decS (aR args 1))) (fun x => [.sl 1 (x.1.map encS), .sl 1 (x.2.map encS)]) (fun x => x.1.length ≤ 4398046511104) (fun _ x => .v (.bool (decide (x.1 = x.2)))) (fun _ _ => [])
theorem cqStr : Cn Try.prog 50 kqStr := by
  refine Cn.pur Try.func50 (by kernel_rfl) rfl fun d x hx => ?_
  obtain ⟨L, M⟩ := x
  simp only at hx ⊢
  refine Holds.go (c := cx0) Try.func50 rfl Try.results50 Try.ntmps50 (by omega) (by simp) rfl ?_
  intro X0 w0
  (repeat' (first | refine WP.seq ?_ | refine WP.block ?_ | ((first | refine WP.region ?_ | refine WP.condW ?_ | refine WP.ret ?_ | refine WP.exit ?_ | refine WP.skip ?_); simp only [go_sem, tyAll, Nat.reduceAdd, Nat.reduceLT, Nat.reduceLeDiff, Nat.reduceEqDiff, Nat.reduceMul, Nat.reduceSub, Nat.reduceGT, reduceIte, Int.reduceNeg, Int.reduceToNat]) | ((first | refine WP.drawW 9 (by decide +kernel) (by kernel_rfl) ?_); simp only [go_sem, tyAll, Nat.reduceAdd, Nat.reduceLT, Nat.reduceLeDiff, Nat.reduceEqDiff, Nat.reduceMul, Nat.reduceSub, Nat.reduceGT, reduceIte, Int.reduceNeg, Int.reduceToNat]) |  refine And.intro ?_ ?_ | intro _))
  · simp; intro h; subst h; simp_all
  have hlen : L.length = M.length := by omega
  refine WP.loop (fun k : Nat => ⟨[(0, .sl 1 (L.map encS)), (1, .sl 1 (M.map encS)), (5, .v (.int .i64 k))], []⟩) (fun k => k ≤ L.length ∧ L.take k = M.take k) (fun k => L.length - k) 0 (by simp) ?_ ?_
  · (simp only [go_sem, tyAll, Nat.reduceAdd, Nat.reduceLT, Nat.reduceLeDiff, Nat.reduceEqDiff, Nat.reduceMul, Nat.reduceSub, Nat.reduceGT, reduceIte, Int.reduceNeg, Int.reduceToNat] <;> (first | rfl | exact ⟨rfl, rfl⟩ | exact ⟨rfl, rfl, rfl⟩ | exact ⟨rfl, rfl, rfl, rfl⟩ | exact ⟨rfl, rfl, rfl, rfl, rfl⟩ | exact ⟨⟨rfl, rfl⟩, rfl⟩ | simp))
  intro k ⟨hk, ht⟩
  by_cases hlt : k < L.length
  · have h1 := rowAt_map encS L k hlt
    have h2 := rowAt_map encS M k (by omega)
    (repeat' (first | refine WP.seq ?_ | refine WP.block ?_ | ((first | refine WP.region ?_ | refine WP.condW ?_ | refine WP.ret ?_ | refine WP.exit ?_ | refine WP.skip ?_); simp only [go_sem, h1, h2, encS, tyAll, Nat.reduceAdd, Nat.reduceLT, Nat.reduceLeDiff, Nat.reduceEqDiff, Nat.reduceMul, Nat.reduceSub, Nat.reduceGT, reduceIte, Int.reduceNeg, Int.reduceToNat]) | ((first | refine WP.drawW 9 (by decide +kernel) (by kernel_rfl) ?_); simp only [go_sem, h1, h2, encS, tyAll, Nat.reduceAdd, Nat.reduceLT, Nat.reduceLeDiff, Nat.reduceEqDiff, Nat.reduceMul, Nat.reduceSub, Nat.reduceGT, reduceIte, Int.reduceNeg, Int.reduceToNat]) |  refine And.intro ?_ ?_ | intro _))
    all_goals first | omega | skip
    · rename_i hne
      rw [show decide (L = M) = false from decide_eq_false fun e => by subst e; exact hne rfl]
    · rename_i he
      refine ⟨k + 1, ⟨by omega, ?_⟩, by omega, rfl⟩
      rw [List.take_succ_eq_append_getElem hlt, List.take_succ_eq_append_getElem (by omega : k < M.length), ht, he]
  · (repeat' (first | refine WP.seq ?_ | refine WP.block ?_ | ((first | refine WP.region ?_ | refine WP.condW ?_ | refine WP.ret ?_ | refine WP.exit ?_ | refine WP.skip ?_); simp only [go_sem, tyAll, Nat.reduceAdd, Nat.reduceLT, Nat.reduceLeDiff, Nat.reduceEqDiff, Nat.reduceMul, Nat.reduceSub, Nat.reduceGT, reduceIte, Int.reduceNeg, Int.reduceToNat]) | ((first | refine WP.drawW 9 (by decide +kernel) (by kernel_rfl) ?_); simp only [go_sem, tyAll, Nat.reduceAdd, Nat.reduceLT, Nat.reduceLeDiff, Nat.reduceEqDiff, Nat.reduceMul, Nat.reduceSub, Nat.reduceGT, reduceIte, Int.reduceNeg, Int.reduceToNat]) |  refine And.intro ?_ ?_ | intro _))
    all_goals first | omega | skip
    rw [show decide (L = M) = true from decide_eq_true ?_]
    rw [show k = L.length by omega, List.take_length, hlen, List.take_length] at ht
    exact ht

def kqRg : Ctr := pur (fun args => rgA args 0) (fun x => [.agg (aggRg x), .agg (aggRg x)]) (fun x => x.2.1.length ≤ 2097152) (fun _ _ => .v (.bool true)) (fun _ _ => [])
section
attribute [local go_sem] aggRg
noncomputable def cxQrg : Cx := { P := Try.prog, tys := tys, C := [(50, kqStr)], hty := tysOk, hC := COk.cons cqStr (COk.nil _) }
theorem cxQrg_t : cxQrg.tys = tys := rfl
theorem cxQrg_c : cxQrg.C = [(50, kqStr)] := rfl
attribute [local go_sem] cxQrg_t cxQrg_c kqStr
theorem cqRg : Cn Try.prog 23 kqRg := by
  refine Cn.pur Try.func23 (by kernel_rfl) rfl fun d x hx => ?_
  obtain ⟨cp, R, wr, lo⟩ := x
  simp only [aggRg] at hx ⊢
  refine Holds.go (c := cxQrg) Try.func23 rfl Try.results23 Try.ntmps23 (by omega) (by simp) rfl ?_
  intro X0 w0
  (repeat' (first | refine WP.seq ?_ | refine WP.block ?_ | ((first | refine WP.region ?_ | refine WP.condW ?_ | refine WP.ret ?_ | refine WP.exit ?_ | refine WP.skip ?_); simp only [go_sem, tyAll, Nat.reduceAdd, Nat.reduceLT, Nat.reduceLeDiff, Nat.reduceEqDiff, Nat.reduceMul, Nat.reduceSub, Nat.reduceGT, reduceIte, Int.reduceNeg, Int.reduceToNat]) |  refine And.intro ?_ ?_ | intro _))
  all_goals first | omega | skip
  all_goals trace_state
end
def kqSe : Ctr := pur (fun args => seA args 0) (fun x => [.agg (aggSe x), .agg (aggSe x)]) shSe (fun _ _ => .v (.bool true)) (fun _ _ => [])
section
attribute [local go_sem] aggSe aggPc aggTm aggRg
attribute [local irreducible] shMach
noncomputable def cxQse : Cx := { P := Try.prog, tys := tys, C := [(10, kqPc), (22, kqTm), (23, kqRg)], hty := tysOk, hC := COk.cons cqPc (COk.cons cqTm (COk.cons cqRg (COk.nil _))) }
theorem cxQse_t : cxQse.tys = tys := rfl
theorem cxQse_c : cxQse.C = [(10, kqPc), (22, kqTm), (23, kqRg)] := rfl
attribute [local go_sem] cxQse_t cxQse_c kqPc kqTm kqRg
set_option maxHeartbeats 3000000 in
theorem cqSe : Cn Try.prog 9 kqSe := by
  refine Cn.pur Try.func9 (by kernel_rfl) rfl fun d x hx => ?_
  obtain ⟨⟨⟨I, B, E⟩, T, tu, le, sl⟩, ⟨p, q, l, st⟩, ⟨cp, R, wr, lo⟩, mo, sp, fi⟩ := x
  obtain ⟨hP, hR⟩ := hx
  have hP2 := hP
  obtain ⟨⟨⟨hI, hIm⟩, hB, hE⟩, hT, hTs⟩ := hP2
  simp only [aggSe] at hI hIm hB hE hT hTs hR ⊢
  refine Holds.go (c := cxQse) Try.func9 rfl Try.results9 Try.ntmps9 (by omega) (by simp) rfl ?_
  intro X0 w0
  (repeat' (first | refine WP.seq ?_ | refine WP.block ?_ | ((first | refine WP.region ?_ | refine WP.condW ?_ | refine WP.ret ?_ | refine WP.exit ?_ | refine WP.skip ?_); simp only [go_sem, tyAll, Nat.reduceAdd, Nat.reduceLT, Nat.reduceLeDiff, Nat.reduceEqDiff, Nat.reduceMul, Nat.reduceSub, Nat.reduceGT, reduceIte, Int.reduceNeg, Int.reduceToNat]) |  refine And.intro ?_ ?_ | intro _))
  all_goals first | omega | exact hIm _ ‹_› | exact hTs _ ‹_› | exact hP | skip
  all_goals trace_state
end
end
section
open Go.Vc
set_option linter.unusedSimpArgs false
set_option linter.unusedVariables false
set_option maxHeartbeats 1000000
attribute [local irreducible] Go.Vc.WP
attribute [local go_sem] cx0_t cx0_c

structure Tok where
  kind : Int
  num : Int
  name : ByteArray
deriving DecidableEq
def encTok (x : Tok) : List SV := [.v (.int .i64 x.kind), .v (.int .i64 x.num), .v (.string x.name)]
def oneTok : List SV → Tok
  | [.v (.int _ kind), .v (.int _ num), .v (.string name)] => ⟨kind, num, name⟩
  | _ => ⟨0, 0, ⟨#[]⟩⟩
def decTok (rows : List (List SV)) : List Tok := rows.map oneTok
theorem oneTok_enc (x : Tok) : oneTok (encTok x) = x := rfl
theorem decTok_enc (L : List Tok) : decTok (L.map encTok) = L := by
  unfold decTok
  rw [List.map_map]
  exact List.map_id'' oneTok_enc L
theorem isV_Tok {e s : Nat} (L : List Tok) : (Ob.sl e s (L.map encTok)).isV ↔ True := iff_true_intro (by
  intro row hr c hc
  obtain ⟨n, _, rfl⟩ := List.mem_map.1 hr
  simp only [encTok, List.mem_cons, List.not_mem_nil, or_false] at hc
  rcases hc with rfl | rfl | rfl <;> exact ⟨_, rfl⟩)
def zerTok : List SV := [.v (.int .i64 0), .v (.int .i64 0), .v (.string ⟨#[]⟩)]

def ktoTok : Ctr := pur (fun args => oneTok (aC args 0)) (fun x => [.agg (encTok x)]) (fun _ => True) (fun _ x => .agg (encTok x)) (fun _ _ => [])
section
attribute [local go_sem] ktoTok oneTok
end

def keqTok : Ctr := pur (fun args => (oneTok (aC args 0), oneTok (aC args 1))) (fun x => [.agg (encTok x.1), .agg (encTok x.2)]) (fun _ => True) (fun _ x => .v (.bool (decide (x.1 = x.2)))) (fun _ _ => [])
def keqTokS : Ctr := pur (fun args => (decTok (aR args 0), decTok (aR args 1))) (fun x => [.sl 3 (x.1.map encTok), .sl 3 (x.2.map encTok)]) (fun x => x.1.length ≤ 4398046511104) (fun _ x => .v (.bool (decide (x.1 = x.2)))) (fun _ _ => [])
section
attribute [local go_sem] keqTok oneTok
end

def kszTok : Ctr := pur (fun args => (oneTok (aC args 0), aI args 1)) (fun x => [.agg (encTok x.1), .v (.int .i64 x.2)]) (fun x => x.1.name.size ≤ maxLen ∧ 0 ≤ x.2 ∧ x.2 ≤ 1048576)
  (fun _ x => .v (.int .i64 (if x.2 - x.1.name.size < 0 then -1 else x.2 - x.1.name.size))) (fun _ _ => [])
def sizesTok (L : List Tok) : List Nat := L.map fun x => x.name.size
def szvTok (L : List Tok) (left : Int) : Int := if left - L.length < 0 then -1 else szGo (sizesTok L) (left - L.length)
def kszTokS : Ctr := pur (fun args => (decTok (aR args 0), aI args 1)) (fun x => [.sl 3 (x.1.map encTok), .v (.int .i64 x.2)]) (fun x => x.1.length ≤ maxLen ∧ (∀ r ∈ x.1, r.name.size ≤ maxLen) ∧ 0 ≤ x.2 ∧ x.2 ≤ 1048576)
  (fun _ x => .v (.int .i64 (szvTok x.1 x.2))) (fun _ _ => [])
section
attribute [local go_sem] kszTok oneTok
end
theorem szvTok_ok {L : List Tok} (h : ¬ szvTok L 1048576 < 0) : L.length ≤ 1048576 ∧ ∀ x ∈ L, x.name.size ≤ 1048576 := by
  unfold szvTok at h
  split at h
  · omega
  · rename_i h2
    refine ⟨by omega, fun x hx => ?_⟩
    have := szGo_ok (sizesTok L) _ (by omega) (Int.not_lt.1 h) x.name.size (List.mem_map.2 ⟨x, hx, rfl⟩)
    omega

theorem extTok {a b : Tok} (h0 : a.kind = b.kind) (h1 : a.num = b.num) (h2 : a.name = b.name) : a = b := by cases a; cases b; simp_all
def mrkTok (v : Int) : Tok := ⟨v, v + 1, markT (v + 1 + 1)⟩
def marksTok (k : Int) (n : Nat) : List Tok := (List.range n).map fun i : Nat => mrkTok (k + 3 * (i : Int))
theorem marksTok_len (k : Int) (n : Nat) : (marksTok k n).length = n := by simp [marksTok]
def halfTok (L : List Tok) (k0 : Int) (k : Nat) : List Tok := marksTok k0 k ++ L.drop k
theorem halfTok_len (L : List Tok) (k0 : Int) (k : Nat) (h : k ≤ L.length) : (halfTok L k0 k).length = L.length := by simp [halfTok, marksTok_len]; omega
theorem halfTok_set (L : List Tok) (k0 : Int) (k : Nat) (h : k < L.length) : ((halfTok L k0 k).map encTok).set k (encTok (mrkTok (k0 + 3 * (k : Int)))) = (halfTok L k0 (k + 1)).map encTok := by
  rw [← List.map_set]
  congr 1
  unfold halfTok
  rw [List.set_append, if_neg (by simp [marksTok_len]), marksTok_len, Nat.sub_self, List.drop_eq_getElem_cons h, List.set_cons_zero]
  simp [marksTok, List.range_succ]
noncomputable def cxMkTok : Cx := { P := Try.prog, tys := tys, C := [(70, kmarkT)], hty := tysOk, hC := COk.cons cmarkT (COk.nil _) }
theorem cxMkTok_t : cxMkTok.tys = tys := rfl
theorem cxMkTok_c : cxMkTok.C = [(70, kmarkT)] := rfl
attribute [local go_sem] cxMkTok_t cxMkTok_c kmarkT

def kmarkTokE : Ctr := len [0] [] (fun args obs => (decTok (oR obs 1000000), aI args 1, oE obs 1000000)) (fun x => [.own 1000000, .v (.int .i64 x.2.1)]) (fun x => [(1000000, .sl x.2.2 3 (x.1.map encTok))]) (fun x => x.1.length ≤ 4398046511104 ∧ 0 ≤ x.2.1 ∧ x.2.1 ≤ 500000000000000)
  (fun _ x => .v (.int .i64 (x.2.1 + 3 * x.1.length))) (fun _ _ => []) (fun x => [(1000000, .sl x.2.2 3 ((marksTok x.2.1 x.1.length).map encTok))])
def kheldTokS : Ctr := pur (fun args => (decTok (aR args 0), aI args 1)) (fun x => [.sl 3 (x.1.map encTok), .v (.int .i64 x.2)]) (fun x => x.1.length ≤ 4398046511104 ∧ 0 ≤ x.2 ∧ x.2 ≤ 500000000000000)
  (fun _ x => .v (.int .i64 (if x.1 = marksTok x.2 x.1.length then x.2 + 3 * x.1.length else -1))) (fun _ _ => [])
section
open Go.RowKit Go.WideShapes Go.ChangeShapes Go.Deep
end
end
end Go.Proofs.Ytoomncljmgcidaa
