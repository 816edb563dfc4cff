/-
  DERIVED. Several texts of ours in one: VtPrf2, VcW, VcX, VcZ, VtWeigh, VpSz, VtMark, VtStrS, VgTok.
-/
import Derived.Test.YtdbjioanlkilkaaVb0
import Derived.Test.YtdbjioanlkilkaaVb1
import Derived.Test.YtdbjioanlkilkaaVb2
import Derived.Test.YtdbjioanlkilkaaVb3
import Derived.Test.YtdbjioanlkilkaaVb4
import Derived.Test.YtdbjioanlkilkaaVb5
import Derived.Orders
set_option linter.unusedSimpArgs false
set_option linter.unusedVariables false
namespace Go.Proofs.Ytdbjioanlkilkaa
open Go.Vc
attribute [local go_sem] St.runR St.runW St.stepV offV St.step St.stepU St.stepG mkCond guardB St.prK St.pr St.prLen St.eff St.callE St.callD St.callF St.callL aI aB aS aR aC St.isM St.argL Ctr.pure Ctr.lend Ctr.move Ctr.isL Ctr.wri pur len lentBy St.lentV St.lent1 nthS argsR restOf obsR pairs swapL unObs backL St.resL erL SV.ren1 SV.up SV.up2 Ob.up St.fzL cellIds partIds St.intoRow SV.ownId St.fz SV.fz1 St.prep St.mvL St.mv SV.re1 rnOk St.prEq vals eqCells scEq Value.kd St.prStr St.prCut cutR St.bnd St.prMin St.bld isShift outL retL outJ oR oC oE oD SV.upq SV.isSl SV.shut St.ev St.get St.put St.new St.kill SV.kill SV.kill1 Ob.kill St.app St.wrt St.rowsOf St.res St.killL lk er argsL SV.strip SV.need SV.share SV.share1 SV.owns SV.owns1 SV.owns2 SV.good SV.good1 SV.rok SV.rok1 SV.rok2 SV.isV SV.isV2 nodupN SV.cells SV.one SV.pur Ob.pb partsIn rowsIn splice cellsAt dstOk scal2 scal1 thenK blockK retK outK outs okC okL okA okT nilC nilL nilA nilT keepC keepL keepA keepT St.runG St.dltK St.least St.clean St.final St.hide offK badS badO SV.refs SV.leaf SV.leaf2 Ob.refs dlOk fpAt Go.Vc.cover tups SV.ofAgg St.out outC subL St.has rng wr Value.oneCell' Option.isSome_some Option.isSome_none List.nil_append Bool.false_eq_true List.map_cons List.map_nil List.all_cons List.all_nil List.length_cons List.length_nil List.drop_zero List.drop_succ_cons List.take_succ_cons List.take_zero List.drop_nil List.take_nil List.getElem?_cons_zero List.getElem?_cons_succ List.getElem?_nil List.cons_append List.nil_append List.append_nil List.append_assoc List.flatMap_cons List.flatMap_nil List.contains_cons List.contains_nil List.set_cons_zero List.set_cons_succ List.getElem?_toArray Option.getD_some Option.getD_none Option.map_some Option.map_none Option.bind_some Option.some.injEq Prod.mk.injEq if_true if_false true_and and_true and_self and_false false_and Bool.and_false Bool.false_and Bool.or_true Bool.true_or Bool.or_false Bool.false_or ne_eq not_true_eq_false not_false_eq_true decide_true decide_false List.mem_cons List.not_mem_nil List.filter_cons List.filter_nil List.any_cons List.any_nil List.isEmpty_nil List.isEmpty_cons Option.getD_none or_false false_or true_or or_true forall_eq_or_imp forall_eq reduceCtorEq exists_eq exists_eq' exists_eq_left' exists_eq_left exists_eq_right exists_eq_right' imp_self implies_true Bool.and_true Bool.true_and Bool.and_self beq_self_eq_true List.replicate_succ List.replicate_zero forall_const false_implies pickB_or pickB_and beqT beqF Int.toNat_natCast List.length_map List.length_replicate ge_iff_le gt_iff_lt decide_eq_true_eq decide_eq_false_iff_not Bool.and_eq_true Bool.or_eq_true Bool.not_eq_true' Bool.not_eq_false' condG List.toList_toArray Bool.or_eq_false_iff Bool.and_eq_false_iff Int.not_lt Int.not_le beq_iff_eq beq_eq_false_iff_ne bne_iff_ne bne_eq_false_iff_eq ne_eq Bool.not_true Bool.not_false exists_and_left
section
open Go.Vc
set_option linter.unusedSimpArgs false
set_option linter.unusedVariables false
set_option maxHeartbeats 1000000
set_option maxRecDepth 10000
attribute [local irreducible] Go.Vc.WP
attribute [local go_sem] cx0_t cx0_c
attribute [local go_sem] decNode_enc decFrame_enc oneFrame_enc stkA oneFrame_ab oneNode_abc decI_enc prA
theorem padC (C : List Int) (j : Nat) : (C ++ List.replicate j 0).map encI ++ [[SV.v (.int .i64 0)]] = (C ++ List.replicate (j + 1) 0).map encI := by
  rw [List.replicate_succ', ← List.append_assoc, List.map_append (l₂ := [0])]; rfl
theorem padC_get {C : List Int} {m k : Nat} (hk : k < C.length + m) (h0 : ∀ x ∈ C, 0 ≤ x ∧ x ≤ 1000000000000) : 0 ≤ (C ++ List.replicate m 0).getD k 0 ∧ (C ++ List.replicate m 0).getD k 0 ≤ 1000000000000 := by
  rw [List.getD_eq_getElem?_getD, List.getElem?_append]
  split
  · rename_i h
    rw [List.getElem?_eq_getElem h]
    exact h0 _ (List.getElem_mem h)
  · rename_i h
    rw [List.getElem?_replicate, if_pos (by omega)]; simp
def kAddStack : Ctr := pur (fun args => (prA args 0, decFrame (aR args 1), aI args 2)) (fun x => [.agg [.sl 3 (x.1.1.map encNode), .sl 1 (x.1.2.map encI)], .sl 2 (x.2.1.map encFrame), .v (.int .i64 x.2.2)])
  (fun x => (x.1.1.length + x.2.1.length ≤ 4398046511104 ∧ (∀ n ∈ x.1.1, n.name.size ≤ 1099511627776) ∧ x.1.2.length ≤ 4398046511104) ∧ ∀ f ∈ x.2.1, f.name.size ≤ 1099511627776)
  (fun d x => .tup [.agg [.own d, .own (d + 1000)], .v (.bool (addStack x.1.1 x.1.2 x.2.1 x.2.2).2)]) (fun d x => [(d, .sl 187 3 ((addStack x.1.1 x.1.2 x.2.1 x.2.2).1.1.map encNode)), (d + 1000, .sl 3 1 ((addStack x.1.1 x.1.2 x.2.1 x.2.2).1.2.map encI))])
theorem addNo {N : List Node} {C : List Int} {L : List Frame} {n : Int} (h : profileOk N C = false ∨ n < 0 ∨ 1000000000000 < n ∨ (intern N L).2 < 0) : addStack N C L n = ((N, C), false) := by
  unfold addStack
  rw [if_neg]
  rintro ⟨h1, h2, h3, h4, _⟩
  rcases h with h | h | h | h
  · rw [h1] at h; cases h
  · omega
  · omega
  · omega
section
noncomputable def cxAsS : Cx := { P := Try.prog, tys := tys, C := [(91, kPrOk), (71, k60), (98, kCopyPr), (99, kIntern)], hty := tysOk, hC := COk.cons cPrOkS (COk.cons c58 (COk.cons cCopyPrS (COk.cons cInternS (COk.nil _)))) }
theorem cxAsS_t : cxAsS.tys = tys := rfl
theorem cxAsS_c : cxAsS.C = [(91, kPrOk), (71, k60), (98, kCopyPr), (99, kIntern)] := rfl
attribute [local go_sem] cxAsS_t cxAsS_c kPrOk k60 kCopyPr kIntern
theorem cAddStackS : Cn Try.prog 59 kAddStack := by
  refine Cn.pur Try.func59 (by kernel_rfl) rfl fun d x hx => ?_
  obtain ⟨⟨N, C⟩, L, n⟩ := x
  obtain ⟨⟨hN, hs, hC⟩, hL⟩ := hx
  simp only at hN hs hC hL ⊢
  have hil := intern_len N L
  have hia := intern_at N L
  have hin := intern_names (B := 1099511627776) hs hL
  have hadd : profileOk N C = false ∨ n < 0 ∨ 1000000000000 < n ∨ (intern N L).2 < 0 → addStack N C L n = ((N, C), false) := addNo
  have hyes : profileOk N C = true → 0 ≤ n → n ≤ 1000000000000 → 0 ≤ (intern N L).2 → addStack N C L n = if profileOk (intern N L).1 (addC C (intern N L).1.length (intern N L).2.toNat n) = true then (((intern N L).1, addC C (intern N L).1.length (intern N L).2.toNat n), true) else ((N, C), false) := fun h1 h2 h3 h4 => by
    unfold addStack
    by_cases hp : profileOk (intern N L).1 (addC C (intern N L).1.length (intern N L).2.toNat n) = true
    · rw [if_pos hp, if_pos ⟨h1, h2, h3, h4, hp⟩]
    · rw [if_neg hp, if_neg fun hc => hp hc.2.2.2.2]
  generalize hI : intern N L = I at *
  obtain ⟨M, at'⟩ := I
  simp only at hil hia hin hadd hyes
  generalize hA : addStack N C L n = A at *
  refine Holds.go (c := cxAsS) Try.func59 rfl Try.results59 Try.ntmps59 (by omega) (by simp) rfl ?_
  intro X0 w0
  (repeat' (first | refine WP.seq ?_ | refine WP.block ?_ | ((first | refine WP.region ?_ | refine WP.condW ?_ | refine WP.ret ?_ | refine WP.exit ?_ | refine WP.skip ?_); simp only [go_sem, hI, tyAll, Nat.reduceAdd, Nat.reduceLT, Nat.reduceLeDiff, Nat.reduceEqDiff, Nat.reduceMul, Nat.reduceSub, Nat.reduceGT, reduceIte, Int.reduceNeg, Int.reduceToNat]) | ((first | refine WP.drawW 10 (by decide +kernel) (by kernel_rfl) ?_); simp only [go_sem, hI, tyAll, Nat.reduceAdd, Nat.reduceLT, Nat.reduceLeDiff, Nat.reduceEqDiff, Nat.reduceMul, Nat.reduceSub, Nat.reduceGT, reduceIte, Int.reduceNeg, Int.reduceToNat]) |  refine And.intro ?_ ?_ | intro _))
  all_goals first | omega | (simp only; omega) | exact hs _ ‹_› | exact hL _ ‹_› | exact ⟨_, _, _, rfl⟩ | exact ⟨_, _, rfl, _, _, rfl, rfl⟩ | skip
  iterate 3
    · rename_i h
      have e := hadd (h.elim .inl fun h => .inr (h.elim .inl fun h => .inr (.inl h)))
      subst e
      first | rfl | exact if_neg (by omega)
  iterate 3
    · rename_i h1 h
      have e := hadd (.inr (.inr (.inr h)))
      subst e
      first | rfl | exact if_neg (by omega)
  rename_i h h0
  obtain ⟨hpo, hn0, hn1⟩ := h
  have hy := hyes hpo hn0 hn1 (by omega)
  obtain ⟨_, hlen, hcnt⟩ := profileOk_iff.1 hpo
  have hpos : ∀ x ∈ C, 0 ≤ x ∧ x ≤ 1000000000000 := fun x hx => by
    obtain ⟨j, hj, rfl⟩ := List.mem_iff_getElem.1 hx
    have h1 := cntOk_at hcnt j hj
    have h2 := profileOk_sum hpo j (by omega)
    omega
  refine WP.loop (fun j : Nat => ⟨[(2, .v (.int .i64 n)), (3, .ptr 3 0 0 0), (6, .ptr 6 0 0 0), (8, .ptr 8 0 0 0), (9, .ptr 9 0 0 0), (10, .v (.int .i64 at'))],
    [(3, .box 43 [.sl 3 (N.map encNode), .sl 1 (C.map encI)]), (6, .box 43 [.v (.slice none 0 0), .v (.slice none 0 0)]), (8, .box 43 [.own 27, .own 1022]), (9, .box 41 [.own 27]), (27, .sl 187 3 (M.map encNode)), (1022, .sl 3 1 ((C ++ List.replicate j 0).map encI))]⟩)
    (fun j => C.length + j ≤ M.length) (fun j => M.length - j) 0 (by omega) ?_ ?_
  · have e0 : C ++ List.replicate 0 0 = C := by simp
    (simp only [go_sem, e0, tyAll, Nat.reduceAdd, Nat.reduceLT, Nat.reduceLeDiff, Nat.reduceEqDiff, Nat.reduceMul, Nat.reduceSub, Nat.reduceGT, reduceIte, Int.reduceNeg, Int.reduceToNat] <;> (first | rfl | exact ⟨rfl, rfl⟩ | exact ⟨rfl, rfl, rfl⟩ | exact ⟨rfl, rfl, rfl, rfl⟩ | exact ⟨rfl, rfl, rfl, rfl, rfl⟩ | exact ⟨⟨rfl, rfl⟩, rfl⟩ | simp))
  intro j hj
  have hcl : (C ++ List.replicate j (0 : Int)).length = C.length + j := by simp
  by_cases hlt : C.length + j < M.length
  · have hpad := padC C j
    (repeat' (first | refine WP.seq ?_ | refine WP.block ?_ | ((first | refine WP.region ?_ | refine WP.condW ?_ | refine WP.ret ?_ | refine WP.exit ?_ | refine WP.skip ?_); simp only [go_sem, hcl, hpad, tyAll, Nat.reduceAdd, Nat.reduceLT, Nat.reduceLeDiff, Nat.reduceEqDiff, Nat.reduceMul, Nat.reduceSub, Nat.reduceGT, reduceIte, Int.reduceNeg, Int.reduceToNat]) | ((first | refine WP.drawW 10 (by decide +kernel) (by kernel_rfl) ?_); simp only [go_sem, hcl, hpad, tyAll, Nat.reduceAdd, Nat.reduceLT, Nat.reduceLeDiff, Nat.reduceEqDiff, Nat.reduceMul, Nat.reduceSub, Nat.reduceGT, reduceIte, Int.reduceNeg, Int.reduceToNat]) |  refine And.intro ?_ ?_ | intro _))
    all_goals first | omega | exact rlI ‹_› | exact ⟨_, _, _, rfl⟩ | exact ⟨_, _, rfl, _, _, rfl, rfl⟩ | skip
    all_goals exact ⟨j + 1, by omega, by omega, by (first | rfl | exact ⟨rfl, rfl⟩ | exact ⟨rfl, rfl, rfl⟩ | exact ⟨rfl, rfl, rfl, rfl⟩ | exact ⟨rfl, rfl, rfl, rfl, rfl⟩ | exact ⟨⟨rfl, rfl⟩, rfl⟩ | simp)⟩
  · have hj2 : j = M.length - C.length := by omega
    have hk : at'.toNat < (C ++ List.replicate j (0 : Int)).length := by omega
    have h1 := rowAt_map encI (C ++ List.replicate j 0) at'.toNat hk
    have hb := padC_get (C := C) (m := j) (k := at'.toNat) (by omega) hpos
    have hg : (C ++ List.replicate j (0 : Int))[at'.toNat] = (C ++ List.replicate j 0).getD at'.toNat 0 := by rw [List.getD_eq_getElem?_getD, List.getElem?_eq_getElem hk]; rfl
    rw [hg] at h1
    have hset : addC C M.length at'.toNat n = (C ++ List.replicate j 0).set at'.toNat ((C ++ List.replicate j 0).getD at'.toNat 0 + n) := by rw [hj2]; rfl
    have hal := addC_len C M.length at'.toNat n
    rw [hset] at hy hal
    generalize (C ++ List.replicate j (0 : Int)).getD at'.toNat 0 = v at *
    have hse : ((C ++ List.replicate j 0).map encI).set at'.toNat [SV.v (.int .i64 (v + n))] = ((C ++ List.replicate j 0).set at'.toNat (v + n)).map encI := by rw [List.map_set]; rfl
    generalize (C ++ List.replicate j (0 : Int)).set at'.toNat (v + n) = D at *
    (repeat' (first | refine WP.seq ?_ | refine WP.block ?_ | ((first | refine WP.region ?_ | refine WP.condW ?_ | refine WP.ret ?_ | refine WP.exit ?_ | refine WP.skip ?_); simp only [go_sem, hcl, h1, hse, encI, tyAll, Nat.reduceAdd, Nat.reduceLT, Nat.reduceLeDiff, Nat.reduceEqDiff, Nat.reduceMul, Nat.reduceSub, Nat.reduceGT, reduceIte, Int.reduceNeg, Int.reduceToNat]) | ((first | refine WP.drawW 10 (by decide +kernel) (by kernel_rfl) ?_); simp only [go_sem, hcl, h1, hse, encI, tyAll, Nat.reduceAdd, Nat.reduceLT, Nat.reduceLeDiff, Nat.reduceEqDiff, Nat.reduceMul, Nat.reduceSub, Nat.reduceGT, reduceIte, Int.reduceNeg, Int.reduceToNat]) |  refine And.intro ?_ ?_ | intro _))
    all_goals first | omega | (simp only; omega) | exact hin _ ‹_› | exact ⟨_, _, _, rfl⟩ | exact ⟨_, _, rfl, _, _, rfl, rfl⟩ | skip
    iterate 3
      · rename_i h8 hf
        have e : A = ((N, C), false) := by rw [hy, if_neg (by rw [hf]; simp)]
        subst e
        first | rfl | exact if_neg (by omega)
    iterate 3
      · rename_i h8 hf
        have e : A = ((M, D), true) := by rw [hy, if_pos hf]
        subst e
        first | rfl | exact if_neg (by omega)
end
section
noncomputable def cxAsI : Cx := { P := Try.prog, tys := tys, C := [(101, kPrOk), (55, k60), (102, kCopyPr), (103, kIntern)], hty := tysOk, hC := COk.cons cPrOkI (COk.cons c60 (COk.cons cCopyPrI (COk.cons cInternI (COk.nil _)))) }
theorem cxAsI_t : cxAsI.tys = tys := rfl
theorem cxAsI_c : cxAsI.C = [(101, kPrOk), (55, k60), (102, kCopyPr), (103, kIntern)] := rfl
attribute [local go_sem] cxAsI_t cxAsI_c kPrOk k60 kCopyPr kIntern
theorem cAddStackI : Cn Try.prog 61 kAddStack := by
  refine Cn.pur Try.func61 (by kernel_rfl) rfl fun d x hx => ?_
  obtain ⟨⟨N, C⟩, L, n⟩ := x
  obtain ⟨⟨hN, hs, hC⟩, hL⟩ := hx
  simp only at hN hs hC hL ⊢
  have hil := intern_len N L
  have hia := intern_at N L
  have hin := intern_names (B := 1099511627776) hs hL
  have hadd : profileOk N C = false ∨ n < 0 ∨ 1000000000000 < n ∨ (intern N L).2 < 0 → addStack N C L n = ((N, C), false) := addNo
  have hyes : profileOk N C = true → 0 ≤ n → n ≤ 1000000000000 → 0 ≤ (intern N L).2 → addStack N C L n = if profileOk (intern N L).1 (addC C (intern N L).1.length (intern N L).2.toNat n) = true then (((intern N L).1, addC C (intern N L).1.length (intern N L).2.toNat n), true) else ((N, C), false) := fun h1 h2 h3 h4 => by
    unfold addStack
    by_cases hp : profileOk (intern N L).1 (addC C (intern N L).1.length (intern N L).2.toNat n) = true
    · rw [if_pos hp, if_pos ⟨h1, h2, h3, h4, hp⟩]
    · rw [if_neg hp, if_neg fun hc => hp hc.2.2.2.2]
  generalize hI : intern N L = I at *
  obtain ⟨M, at'⟩ := I
  simp only at hil hia hin hadd hyes
  generalize hA : addStack N C L n = A at *
  refine Holds.go (c := cxAsI) Try.func61 rfl Try.results61 Try.ntmps61 (by omega) (by simp) rfl ?_
  intro X0 w0
  (repeat' (first | refine WP.seq ?_ | refine WP.block ?_ | ((first | refine WP.region ?_ | refine WP.condW ?_ | refine WP.ret ?_ | refine WP.exit ?_ | refine WP.skip ?_); simp only [go_sem, hI, tyAll, Nat.reduceAdd, Nat.reduceLT, Nat.reduceLeDiff, Nat.reduceEqDiff, Nat.reduceMul, Nat.reduceSub, Nat.reduceGT, reduceIte, Int.reduceNeg, Int.reduceToNat]) |  refine And.intro ?_ ?_ | intro _))
  all_goals first | omega | (simp only; omega) | exact hs _ ‹_› | exact hL _ ‹_› | exact ⟨_, _, _, rfl⟩ | exact ⟨_, _, rfl, _, _, rfl, rfl⟩ | skip
  iterate 3
    · rename_i h
      have e := hadd (h.elim .inl fun h => .inr (h.elim .inl fun h => .inr (.inl h)))
      subst e
      first | rfl | exact if_neg (by omega)
  iterate 3
    · rename_i h1 h
      have e := hadd (.inr (.inr (.inr h)))
      subst e
      first | rfl | exact if_neg (by omega)
  rename_i h h0
  obtain ⟨hpo, hn0, hn1⟩ := h
  have hy := hyes hpo hn0 hn1 (by omega)
  obtain ⟨_, hlen, hcnt⟩ := profileOk_iff.1 hpo
  have hpos : ∀ x ∈ C, 0 ≤ x ∧ x ≤ 1000000000000 := fun x hx => by
    obtain ⟨j, hj, rfl⟩ := List.mem_iff_getElem.1 hx
    have h1 := cntOk_at hcnt j hj
    have h2 := profileOk_sum hpo j (by omega)
    omega
  refine WP.loop (fun j : Nat => ⟨[(2, .v (.int .i64 n)), (3, .ptr 3 0 0 0), (6, .ptr 6 0 0 0), (8, .ptr 8 0 0 0), (9, .ptr 9 0 0 0), (10, .v (.int .i64 at'))],
    [(3, .box 43 [.sl 3 (N.map encNode), .sl 1 (C.map encI)]), (6, .box 43 [.v (.slice none 0 0), .v (.slice none 0 0)]), (8, .box 43 [.own 27, .own 1022]), (9, .box 41 [.own 27]), (27, .sl 187 3 (M.map encNode)), (1022, .sl 3 1 ((C ++ List.replicate j 0).map encI))]⟩)
    (fun j => C.length + j ≤ M.length) (fun j => M.length - j) 0 (by omega) ?_ ?_
  · have e0 : C ++ List.replicate 0 0 = C := by simp
    (simp only [go_sem, e0, tyAll, Nat.reduceAdd, Nat.reduceLT, Nat.reduceLeDiff, Nat.reduceEqDiff, Nat.reduceMul, Nat.reduceSub, Nat.reduceGT, reduceIte, Int.reduceNeg, Int.reduceToNat] <;> (first | rfl | exact ⟨rfl, rfl⟩ | exact ⟨rfl, rfl, rfl⟩ | exact ⟨rfl, rfl, rfl, rfl⟩ | exact ⟨rfl, rfl, rfl, rfl, rfl⟩ | exact ⟨⟨rfl, rfl⟩, rfl⟩ | simp))
  intro j hj
  have hcl : (C ++ List.replicate j (0 : Int)).length = C.length + j := by simp
  by_cases hlt : C.length + j < M.length
  · have hpad := padC C j
    (repeat' (first | refine WP.seq ?_ | refine WP.block ?_ | ((first | refine WP.region ?_ | refine WP.condW ?_ | refine WP.ret ?_ | refine WP.exit ?_ | refine WP.skip ?_); simp only [go_sem, hcl, hpad, tyAll, Nat.reduceAdd, Nat.reduceLT, Nat.reduceLeDiff, Nat.reduceEqDiff, Nat.reduceMul, Nat.reduceSub, Nat.reduceGT, reduceIte, Int.reduceNeg, Int.reduceToNat]) |  refine And.intro ?_ ?_ | intro _))
    all_goals first | omega | exact rlI ‹_› | exact ⟨_, _, _, rfl⟩ | exact ⟨_, _, rfl, _, _, rfl, rfl⟩ | skip
    all_goals exact ⟨j + 1, by omega, by omega, by (first | rfl | exact ⟨rfl, rfl⟩ | exact ⟨rfl, rfl, rfl⟩ | exact ⟨rfl, rfl, rfl, rfl⟩ | exact ⟨rfl, rfl, rfl, rfl, rfl⟩ | exact ⟨⟨rfl, rfl⟩, rfl⟩ | simp)⟩
  · have hj2 : j = M.length - C.length := by omega
    have hk : at'.toNat < (C ++ List.replicate j (0 : Int)).length := by omega
    have h1 := rowAt_map encI (C ++ List.replicate j 0) at'.toNat hk
    have hb := padC_get (C := C) (m := j) (k := at'.toNat) (by omega) hpos
    have hg : (C ++ List.replicate j (0 : Int))[at'.toNat] = (C ++ List.replicate j 0).getD at'.toNat 0 := by rw [List.getD_eq_getElem?_getD, List.getElem?_eq_getElem hk]; rfl
    rw [hg] at h1
    have hset : addC C M.length at'.toNat n = (C ++ List.replicate j 0).set at'.toNat ((C ++ List.replicate j 0).getD at'.toNat 0 + n) := by rw [hj2]; rfl
    have hal := addC_len C M.length at'.toNat n
    rw [hset] at hy hal
    generalize (C ++ List.replicate j (0 : Int)).getD at'.toNat 0 = v at *
    have hse : ((C ++ List.replicate j 0).map encI).set at'.toNat [SV.v (.int .i64 (v + n))] = ((C ++ List.replicate j 0).set at'.toNat (v + n)).map encI := by rw [List.map_set]; rfl
    generalize (C ++ List.replicate j (0 : Int)).set at'.toNat (v + n) = D at *
    (repeat' (first | refine WP.seq ?_ | refine WP.block ?_ | ((first | refine WP.region ?_ | refine WP.condW ?_ | refine WP.ret ?_ | refine WP.exit ?_ | refine WP.skip ?_); simp only [go_sem, hcl, h1, hse, encI, tyAll, Nat.reduceAdd, Nat.reduceLT, Nat.reduceLeDiff, Nat.reduceEqDiff, Nat.reduceMul, Nat.reduceSub, Nat.reduceGT, reduceIte, Int.reduceNeg, Int.reduceToNat]) |  refine And.intro ?_ ?_ | intro _))
    all_goals first | omega | (simp only; omega) | exact hin _ ‹_› | exact ⟨_, _, _, rfl⟩ | exact ⟨_, _, rfl, _, _, rfl, rfl⟩ | skip
    iterate 3
      · rename_i h8 hf
        have e : A = ((N, C), false) := by rw [hy, if_neg (by rw [hf]; simp)]
        subst e
        first | rfl | exact if_neg (by omega)
    iterate 3
      · rename_i h8 hf
        have e : A = ((M, D), true) := by rw [hy, if_pos hf]
        subst e
        first | rfl | exact if_neg (by omega)
end
end
end Go.Proofs.Ytdbjioanlkilkaa
/-
  DERIVED. A nil slice in a slot or in a variable's cell as a list of one's own that holds nothing.
-/
namespace Go.Vc
set_option linter.unusedVariables false

/-- object t is turned into what stands for the same cells -/
def rp (t : Nat) (ob : Ob) : List (Nat × Ob) → List (Nat × Ob)
  | [] => []
  | (u, o) :: l => (if u = t then (u, ob) else (u, o)) :: rp t ob l
theorem lk_rp {t : Nat} {ob : Ob} {j : Nat} : ∀ {l : List (Nat × Ob)} {o : Ob}, lk j (rp t ob l) = some o → ∃ o0, lk j l = some o0 ∧ (j = t → o = ob) ∧ (j ≠ t → o = o0)
  | (u, o1) :: l, o, h => by
    simp only [rp] at h
    by_cases hu : u = t
    · rw [if_pos hu] at h
      simp only [lk] at h ⊢
      by_cases hj : j = u
      · rw [if_pos hj] at h ⊢; cases h
        exact ⟨o1, rfl, fun _ => rfl, fun hn => absurd (hj.trans hu) hn⟩
      · rw [if_neg hj] at h ⊢; exact lk_rp h
    · rw [if_neg hu] at h
      simp only [lk] at h ⊢
      by_cases hj : j = u
      · rw [if_pos hj] at h ⊢; cases h
        exact ⟨_, rfl, fun e => absurd (hj.symm.trans e) hu, fun _ => rfl⟩
      · rw [if_neg hj] at h ⊢; exact lk_rp h
def isNil : SV → Bool
  | .v (.slice none 0 0) => true
  | _ => false
/-- cell k of variable t, a nil slice, is list id from here on (elements of type e, of s cells) -/
def St.adoptB (st : St) (t k id e s : Nat) : St :=
  match lk t (st.kill id).hp with
  | some (.box e' cs) => match cs[k]? with
    | some c => if isNil c = true ∧ id < 1000000 ∧ t ≠ id then { fr := (st.kill id).fr, hp := rp t (.box e' (cs.set k (.own id))) ((id, .sl e s []) :: (st.kill id).hp) } else st
    | none => st
  | _ => st
/-- .. what slot t holds -/
def St.adoptS (st : St) (t id e s : Nat) : St :=
  match lk t (st.kill id).fr with
  | some c => if isNil c = true ∧ id < 1000000 then { fr := (t, .own id) :: er t (st.kill id).fr, hp := (id, .sl e s []) :: (st.kill id).hp } else st
  | none => st
section
variable {c : Cx} {P : Program} {N : Nat} {X0 : Nat → Prop} {M : Nat → BV → Prop} {w0 : World} {st : St} {K : Exit → St → Prop}
theorem isNil_eq {x : SV} (h : isNil x = true) : x = .v (.slice none 0 0) := by
  unfold isNil at h
  split at h
  · rfl
  · cases h
theorem Sim.nilObj {β : Nat → BV} {a : Act} {w : World} (h : Sim N X0 M w0 st β a w) {id e s : Nat} (hid : id < 1000000) :
    ∃ β', β' id = nilB ∧ Sim N X0 M w0 { fr := (st.kill id).fr, hp := (id, .sl e s []) :: (st.kill id).hp } β' a w := by
  let β' : Nat → BV := fun i => if i = id then nilB else β i
  have hβ : ∀ i, i ≠ id → β' i = β i := fun i hi => by show (if i = id then _ else β i) = _; rw [if_neg hi]
  have hβd : β' id = nilB := by show (if id = id then _ else β id) = _; rw [if_pos rfl]
  have h1 := h.kill id hid hβ (by rw [hβd]; rfl) (w' := w) rfl rfl rfl (Nat.le_refl _) (fun _ _ _ => rfl) (X1 := X0) (fun b _ hb => .inl hb) h.x0
  refine ⟨β', hβd, ?_⟩
  exact h1.add (j := id) (lk_kill st id) (ob := .sl e s []) (.nil e s hβd) (fun b hb => by rw [hβd] at hb; cases hb) (fun b hb => by rw [hβd] at hb; cases hb) (fun b i o hb => by rw [hβd] at hb; cases hb)
theorem Sim.rp {β : Nat → BV} {a : Act} {w : World} (h : Sim N X0 M w0 st β a w) {t e' : Nat} {cs ds : List SV} (ht : lk t st.hp = some (.box e' cs)) (hl : ds.length = cs.length)
    (hd : ∀ (k : Nat) (d : SV), ds[k]? = some d → ∃ c, cs[k]? = some c ∧ ∀ u, R w (XX X0 β st.hp) β c u → R w (XX X0 β st.hp) β d u) : Sim N X0 M w0 { fr := st.fr, hp := Go.Vc.rp t (.box e' ds) st.hp } β a w := by
  have hX : ∀ b, XX X0 β (Go.Vc.rp t (.box e' ds) st.hp) b → XX X0 β st.hp b := fun b hb => by
    rcases hb with hb | ⟨j, o, hj, hb⟩
    · exact .inl hb
    · obtain ⟨o0, h1, _⟩ := lk_rp hj; exact .inr ⟨j, o0, h1, hb⟩
  have hS : Same (XX X0 β st.hp) w w := ⟨Nat.le_refl _, fun _ _ _ => rfl⟩
  exact { h with
    slots := fun u x hx => (h.slots u x hx).mono hS fun b _ => hX b
    objs := fun j o hj => by
      obtain ⟨o0, h1, h2, h3⟩ := lk_rp hj
      by_cases hjt : j = t
      · rw [h2 hjt]
        subst hjt
        have hO := h.objs j _ ht
        cases hO with
        | box b cur hv hh hlen hc =>
          refine .box b cur hv hh (by rw [hl]; exact hlen) fun k d u hk hu => ?_
          obtain ⟨c0, hc0, hR⟩ := hd k d hk
          obtain ⟨g1, g2⟩ := hc k c0 u hc0 hu
          exact ⟨g1, (hR u g2).mono hS fun b _ => hX b⟩
      · rw [h3 hjt]
        exact (h.objs j o0 h1).mono hS (fun b _ hb => hX b hb) (fun _ _ => rfl)
    inj := fun p q op oq b hp hq hbp hbq => by
      obtain ⟨o1, e1, _⟩ := lk_rp hp
      obtain ⟨o2, e2, _⟩ := lk_rp hq
      exact h.inj p q o1 o2 b e1 e2 hbp hbq
    mine := fun j o b hj hb => by
      obtain ⟨o1, e1, _⟩ := lk_rp hj
      exact h.mine j o1 b e1 hb }
theorem Sim.adoptB {β : Nat → BV} {a : Act} {w : World} (h : Sim N X0 M w0 st β a w) (t k id e s : Nat) : ∃ β', Sim N X0 M w0 (st.adoptB t k id e s) β' a w := by
  unfold St.adoptB
  split
  case h_2 => exact ⟨β, h⟩
  case h_1 _ e' cs hl =>
  split
  case h_2 => exact ⟨β, h⟩
  case h_1 _ c0 hc =>
  split
  case isFalse => exact ⟨β, h⟩
  case isTrue hh =>
  obtain ⟨hn, hid, hne⟩ := hh
  have hc0 := isNil_eq hn
  subst hc0
  obtain ⟨β', hb, h1⟩ := h.nilObj (e := e) (s := s) hid
  refine ⟨β', ?_⟩
  have hlt : k < cs.length := (List.getElem?_eq_some_iff.1 hc).1
  refine h1.rp (t := t) (e' := e') (cs := cs) (ds := cs.set k (.own id)) ?_ (by simp) fun i d hd => ?_
  · simp only [lk, if_neg hne]; exact hl
  · rw [List.getElem?_set] at hd
    split at hd
    · rename_i hik
      subst hik
      try rw [if_pos hlt] at hd
      cases hd
      exact ⟨_, hc, fun u hu => by
        have := hu.v_inv; subst this
        have h0 := R.own (w := w) (X := XX X0 β' ((id, .sl e s []) :: (st.kill id).hp)) (β := β') id
        rw [hb] at h0; exact h0⟩
    · exact ⟨d, hd, fun u hu => hu⟩
theorem Sim.adoptS {β : Nat → BV} {a : Act} {w : World} (h : Sim N X0 M w0 st β a w) (t id e s : Nat) : ∃ β', Sim N X0 M w0 (st.adoptS t id e s) β' a w := by
  unfold St.adoptS
  split
  case h_2 => exact ⟨β, h⟩
  case h_1 _ c0 hc =>
  split
  case isFalse => exact ⟨β, h⟩
  case isTrue hh =>
  obtain ⟨hn, hid⟩ := hh
  have hc0 := isNil_eq hn
  subst hc0
  obtain ⟨β', hb, h1⟩ := h.nilObj (e := e) (s := s) hid
  refine ⟨β', ?_⟩
  have hv := (h1.slots t _ hc).v_inv
  exact { h1 with
    slots := fun u x hx => by
      simp only [lk] at hx
      split at hx
      · rename_i hut
        cases hx
        rw [hut, hv]
        have h0 := R.own (w := w) (X := XX X0 β' ((id, .sl e s []) :: (st.kill id).hp)) (β := β') id
        rw [hb] at h0; exact h0
      · rename_i hut
        rw [lk_er_ne hut] at hx
        exact h1.slots u x hx }
/-- a list of such changes -/
inductive Ado where
  | b (t k id e s : Nat)
  | s (t id e s : Nat)
def St.ado (st : St) : List Ado → St
  | [] => st
  | .b t k id e s :: l => (st.adoptB t k id e s).ado l
  | .s t id e s :: l => (st.adoptS t id e s).ado l
theorem Sim.ado {a : Act} {w : World} : ∀ (l : List Ado) {st : St} {β : Nat → BV}, Sim N X0 M w0 st β a w → ∃ β', Sim N X0 M w0 (st.ado l) β' a w
  | [], st, β, h => ⟨β, h⟩
  | .b t k id e s :: l, st, β, h => by obtain ⟨β', h'⟩ := h.adoptB t k id e s; exact Sim.ado l h'
  | .s t id e s :: l, st, β, h => by obtain ⟨β', h'⟩ := h.adoptS t id e s; exact Sim.ado l h'
theorem WP.ado (l : List Ado) {code : Code} (h : WP c N X0 M w0 code (st.ado l) K) : WP c N X0 M w0 code st K := fun hA β a w hs => by
  obtain ⟨β', h'⟩ := hs.ado l
  exact h hA β' a w h'
end
end Go.Vc

/-
  DERIVED. As WP.flowW, the lists that are sliced there first given up as lists of one's own.
-/
namespace Go.Vc
def St.fzS : St → List Nat → St
  | st, [] => st
  | st, s :: l => ((st.fzL (st.ev (.tmp s)).strip.ownId)).fzS l
theorem Sim.fzS {P : Program} {X0 : Nat → Prop} {M : Nat → BV → Prop} {w0 : World} {N : Nat} {β : Nat → BV} {a : Act} {w : World} (hA : Ap P X0 M w0) : ∀ (l : List Nat) {st : St}, Sim N X0 M w0 st β a w → Sim N X0 M w0 (st.fzS l) β a w
  | [], _, h => h
  | _ :: l, _, h => Sim.fzS hA l (h.fzL hA _)
theorem WP.flowZ {c : Cx} {N : Nat} {X0 : Nat → Prop} {M : Nat → BV → Prop} {w0 : World} {K : Exit → St → Prop} {id : Nat} {l : List Oper} {st : St} (zs : List Nat) (m : Nat) (fl : List Fp) (ds mks gs : List Nat) (hB : flowB l.toArray m fl = true)
    (hD : ((List.range m).all fun k => match dstAt l.toArray k with | some d => ds.contains d | none => false) = true)
    (hM : ((List.range m).all fun k => ((fpAt fl k).mks.all fun d => mks.contains d) && ((fpAt fl k).gn.all fun d => gs.contains d)) = true) (hm : c.P.follows .mixedOrders = true)
    (h : St.runG c.tys c.C N l.toArray fl ((st.fzS zs).clean ds mks) (l.take m) 0 [] fun acc => St.runR c.tys c.C N l.toArray (l.drop m) (((st.fzS zs).clean ds mks).final acc gs) (K .normal)) : WP c N X0 M w0 (.region id l.toArray true) st K := by
  intro hA β a w hs
  exact WP.flowW m fl ds mks gs hB hD hM hm h hA β a w (hs.fzS hA zs)
end Go.Vc

/-
  DERIVED. A region whose order is open: one of its value operations may be taken as soon as it can be.
-/
namespace Go.Vc
set_option linter.unusedVariables false
section
variable {P : Program} {Q : Exit → Act → World → Prop} {s q : Nat} {ops : Array Oper}
def behind (o : Oper) (q : Nat) : Oper := { o with after := o.after.push ⟨q, .data⟩ }
def addE (s q : Nat) (ops : Array Oper) : Array Oper := ops.modify s fun o => behind o q
theorem addE_get (i : Nat) : (addE s q ops)[i]? = (ops[i]?).map fun o => if i = s then behind o q else o := by
  unfold addE
  rw [Array.getElem?_modify]
  by_cases h : s = i
  · rw [if_pos h]; subst h; simp
  · rw [if_neg h]
    have : ¬ i = s := fun e => h e.symm
    simp [this]
theorem yielded_addE (tmps : Array Value) : yielded (addE s q ops) tmps = yielded ops tmps := by
  funext j
  unfold yielded
  rw [addE_get]
  cases ops[j]? with
  | none => rfl
  | some o =>
    simp only [Option.map_some, Option.bind_some]
    by_cases hj : j = s
    · rw [if_pos hj]; rfl
    · rw [if_neg hj]
theorem wpOp_addE {i : Nat} {K : Act → World → Prop} {a : Act} {w : World} (h : wpOp P (addE s q ops) Q i K a w) : wpOp P ops Q i K a w := by
  unfold wpOp at h ⊢
  rw [addE_get, yielded_addE] at h
  cases ho : ops[i]? with
  | none => rw [ho] at h; exact h
  | some o =>
    rw [ho] at h
    simp only [Option.map_some] at h ⊢
    by_cases hi : i = s
    · rw [if_pos hi] at h; exact h
    · rw [if_neg hi] at h; exact h
theorem ready_addE {i : Nat} {listed : Array Bool} : i ∈ Region.ready .any (addE s q ops) listed ↔ i ∈ Region.ready .any ops listed ∧ (i = s → listed.getD q false = true) := by
  rw [mem_ready', mem_ready', addE_get, show (addE s q ops).size = ops.size by unfold addE; rw [Array.size_modify]]
  constructor
  · rintro ⟨h1, h2, o', ho', h3⟩
    cases ho : ops[i]? with
    | none => rw [ho] at ho'; cases ho'
    | some o =>
      rw [ho] at ho'
      simp only [Option.map_some, Option.some.injEq] at ho'
      by_cases hi : i = s
      · rw [if_pos hi] at ho'
        subst ho'
        refine ⟨⟨h1, h2, o, rfl, fun e he hb => h3 e (by unfold behind; simp [he]) hb⟩, fun _ => h3 ⟨q, .data⟩ (by unfold behind; simp) rfl⟩
      · rw [if_neg hi] at ho'
        subst ho'
        exact ⟨⟨h1, h2, o, rfl, h3⟩, fun e => absurd e hi⟩
  · rintro ⟨⟨h1, h2, o, ho, h3⟩, h4⟩
    rw [ho]
    simp only [Option.map_some, Option.some.injEq]
    refine ⟨h1, h2, _, rfl, fun e he hb => ?_⟩
    by_cases hi : i = s
    · rw [if_pos hi] at he
      unfold behind at he
      simp only [Array.mem_push] at he
      rcases he with he | rfl
      · exact h3 e he hb
      · exact h4 hi
    · rw [if_neg hi] at he
      exact h3 e he hb

/-- what the place of q asks: s waits for all that q waits for, every other operation waits for q or is apart from it -/
structure EdgeOk (ops : Array Oper) (s q : Nat) (oq : Oper) : Prop where
  ne : s ≠ q
  at_q : ops[q]? = some oq
  sel : ∀ (j : Nat) (o : Oper) cs b, ops[j]? = some o → o.op ≠ .select cs b
  deps : ∀ os, ops[s]? = some os → ∀ e ∈ oq.after, Region.binds .any e = true → ∃ e' ∈ os.after, Region.binds .any e' = true ∧ e'.on = e.on
  apart : ∀ j oj, ops[j]? = some oj → j ≠ q → (∀ e ∈ oq.after, Region.binds .any e = true → e.on ≠ j) → (∀ e ∈ oj.after, Region.binds .any e = true → e.on ≠ q) → oq.apart ops oj = true
  guard : oq.guard = none
  pure : ∀ (a : Act) (w : World) (K : Act → World → Prop) (Q : Exit → Act → World → Prop), (∀ e a w, e ≠ .normal → ¬ Q e a w) → oq.wp P a w K Q → ∃ v, (∀ w, (execOp a.eval oq).run P w = .ok (.value v) w) ∧ K (a.put oq.dst v) w

theorem wpAny_edge {oq : Oper} (hE : EdgeOk (P := P) ops s q oq) (hQ : ∀ e a w, e ≠ .normal → ¬ Q e a w) : ∀ (fuel : Nat) (listed : Array Bool) (a : Act) (w : World), listed.size = ops.size → wpAny P .any (addE s q ops) Q fuel listed a w → wpAny P .any ops Q fuel listed a w := by
  have hq2 : ∀ {listed : Array Bool}, q ∈ Region.ready .any ops listed → q ∈ Region.ready .any (addE s q ops) listed := fun {listed} h => ready_addE.2 ⟨h, fun e => absurd e.symm hE.ne⟩
  have early : ∀ {listed : Array Bool} {i : Nat}, listed.size = ops.size → i ∈ Region.ready .any ops listed → i ∉ Region.ready .any (addE s q ops) listed → q ∈ Region.ready .any ops listed := fun {listed i} hsz h1 h2 => by
    have his : i = s := Classical.byContradiction fun hn => h2 (ready_addE.2 ⟨h1, fun e => absurd e hn⟩)
    subst his
    have hql : listed.getD q false = false := by
      cases hh : listed.getD q false with
      | true => exact absurd (ready_addE.2 ⟨h1, fun _ => hh⟩) h2
      | false => rfl
    obtain ⟨g1, g2, os, ho, g3⟩ := mem_ready'.1 h1
    have hqs : q < ops.size := (Array.getElem?_eq_some_iff.1 hE.at_q).1
    have hqt : listed.getD q true = false := by
      rw [Array.getD_eq_getD_getElem?, Array.getElem?_eq_getElem (by omega)] at hql ⊢
      exact hql
    refine mem_ready'.2 ⟨hqs, hqt, oq, hE.at_q, fun e he hb => ?_⟩
    obtain ⟨e', he', hb', hon⟩ := hE.deps os ho e he hb
    rw [← hon]
    exact g3 e' he' hb'
  intro fuel
  induction fuel with
  | zero =>
    intro listed a w hsz h
    refine ⟨?_, h.2⟩
    rcases hr : Region.ready .any ops listed with _ | ⟨i, l⟩
    · rfl
    · exfalso
      have hi : i ∈ Region.ready .any ops listed := by rw [hr]; simp
      have hn : ∀ j, j ∉ Region.ready .any (addE s q ops) listed := fun j hj => by rw [h.1] at hj; cases hj
      exact hn q (hq2 (early hsz hi (hn i)))
  | succ fuel ih =>
    intro listed a w hsz H
    by_cases hq : q ∈ Region.ready .any ops listed
    · have h1 := wpOp_addE (H.2 q (hq2 hq))
      unfold wpOp at h1
      rw [hE.at_q] at h1
      have hw : Region.wanted oq (yielded ops a.tmps) = true := by simp [Region.wanted, hE.guard]
      simp only [hw, if_true] at h1
      rcases h1 with h1 | ⟨_, x, y, h1⟩
      · obtain ⟨v, hrun, hK⟩ := hE.pure a w _ _ hQ h1
        exact wpAny_first hE.at_q hE.sel (fun c a w h => absurd h (hQ _ _ _ (by simp))) fuel listed a w (fun j oj hj hne hl hw' => hE.apart j oj hj hne (fun e he hb hj' => by
          obtain ⟨_, _, o2, ho2, h3⟩ := mem_ready'.1 hq
          rw [hE.at_q] at ho2
          obtain rfl := Option.some.inj ho2
          have h4 := h3 e he hb
          rw [hj'] at h4
          have hjs : j < ops.size := (Array.getElem?_eq_some_iff.1 hj).1
          rw [Array.getD_eq_getD_getElem?, Array.getElem?_eq_getElem (by omega)] at hl h4
          simp only [Option.getD_some] at hl h4
          rw [hl] at h4; cases h4) hw') hq (.inl ⟨hw, hrun⟩) (ih _ _ _ (by simpa using hsz) hK)
      · exact absurd h1 (hQ _ _ _ (by simp))
    · refine ⟨fun he => H.1 ?_, fun i hi => ?_⟩
      · rcases hr : Region.ready .any (addE s q ops) listed with _ | ⟨i, l⟩
        · rfl
        · have hi : i ∈ Region.ready .any (addE s q ops) listed := by rw [hr]; simp
          have := (ready_addE.1 hi).1
          rw [he] at this; cases this
      · have hi' : i ∈ Region.ready .any (addE s q ops) listed := Classical.byContradiction fun hn => hq (early hsz hi hn)
        exact wpOp_mono (fun a' w' h => ih _ _ _ (by simpa using hsz) h) (wpOp_addE (H.2 i hi'))
theorem pure_extract {oq : Oper} {x : Operand} {i : Nat} (ho : oq.op = .extract x i) (a : Act) (w : World) (K : Act → World → Prop) (Q : Exit → Act → World → Prop) (hQ : ∀ e a w, e ≠ .normal → ¬ Q e a w) (h : oq.wp P a w K Q) :
    ∃ v, (∀ w, (execOp a.eval oq).run P w = .ok (.value v) w) ∧ K (a.put oq.dst v) w := by
  unfold Oper.wp at h
  cases hx : a.eval x with
  | tuple us =>
    cases hu : us[i]? with
    | some v =>
      refine ⟨v, fun w => by simp [execOp, ho, hx, Instr.extract, hu], ?_⟩
      simpa [execOp, ho, hx, Instr.extract, hu, Oper.upon] using h
    | none => simp [execOp, ho, hx, Instr.extract, hu, Oper.upon, stuck] at h
  | _ => simp [execOp, ho, hx, Instr.extract, Oper.upon, stuck] at h
def isExtract : Op → Bool
  | .extract _ _ => true
  | _ => false
def isSelect : Op → Bool
  | .select _ _ => true
  | _ => false
def edgeB (ops : Array Oper) (s q : Nat) : Bool := s != q && match ops[q]?, ops[s]? with
  | some oq, some os => isExtract oq.op && oq.guard.isNone &&
    (oq.after.toList.all fun e => !Region.binds .any e || os.after.toList.any fun e' => Region.binds .any e' && e'.on == e.on) &&
    (List.range ops.size).all fun j => match ops[j]? with
      | some oj => !isSelect oj.op && (j == q || (oq.after.toList.any fun e => Region.binds .any e && e.on == j) || (oj.after.toList.any fun e => Region.binds .any e && e.on == q) || oq.apart ops oj)
      | none => true
  | _, _ => false
theorem edgeB_ok (h : edgeB ops s q = true) : ∃ oq, EdgeOk (P := P) ops s q oq := by
  unfold edgeB at h
  rw [Bool.and_eq_true] at h
  obtain ⟨h0, h⟩ := h
  split at h
  case h_2 => cases h
  case h_1 _ _ oq os hoq hos =>
    simp only [Bool.and_eq_true] at h
    obtain ⟨⟨⟨h1, h2⟩, h3⟩, h4⟩ := h
    have key : ∀ j oj, ops[j]? = some oj → isSelect oj.op = false ∧ (j = q ∨ (∃ e ∈ oq.after, Region.binds .any e = true ∧ e.on = j) ∨ (∃ e ∈ oj.after, Region.binds .any e = true ∧ e.on = q) ∨ oq.apart ops oj = true) := fun j oj hj => by
      have := List.all_eq_true.1 h4 j (List.mem_range.2 (Array.getElem?_eq_some_iff.1 hj).1)
      rw [hj] at this
      simp only [Bool.and_eq_true, Bool.not_eq_true', Bool.or_eq_true, beq_iff_eq, List.any_eq_true, Array.mem_toList_iff] at this
      refine ⟨this.1, ?_⟩
      rcases this.2 with ((h | h) | h) | h
      · exact .inl h
      · exact .inr (.inl h)
      · exact .inr (.inr (.inl h))
      · exact .inr (.inr (.inr h))
    refine ⟨oq, ⟨by simpa using h0, hoq, fun j o cs b hj hsel => ?_, fun os' hos' e he hb => ?_, fun j oj hj hne hd hw => ?_, by simpa using h2, ?_⟩⟩
    · have := (key j o hj).1
      rw [hsel] at this; cases this
    · obtain rfl := Option.some.inj (hos.symm.trans hos')
      have := List.all_eq_true.1 h3 e (by simpa using he)
      rw [hb] at this
      simp only [Bool.not_true, Bool.false_or, List.any_eq_true, Bool.and_eq_true, beq_iff_eq] at this
      obtain ⟨e', he', h5, h6⟩ := this
      exact ⟨e', by simpa using he', h5, h6⟩
    · rcases (key j oj hj).2 with h | ⟨e, he, hb, ho⟩ | ⟨e, he, hb, ho⟩ | h
      · exact absurd h hne
      · exact absurd ho (hd e he hb)
      · exact absurd ho (hw e he hb)
      · exact h
    · intro a w K Q hQ hh
      cases hop : oq.op with
      | extract x i => exact pure_extract hop a w K Q hQ hh
      | _ => rw [hop] at h1; cases h1
theorem upon_Q {o : Oper} {a : Act} {K : Act → World → Prop} {Q' Q : Exit → Act → World → Prop} (h : ∀ e a w, Q' e a w → Q e a w) {r : Result Next} (hh : o.upon P a K Q' r) : o.upon P a K Q r := by
  cases r with
  | ok n w' =>
    cases n <;> simp only [Oper.upon] at hh ⊢ <;> first
      | exact hh
      | exact Calls.mono hh fun e w'' he => by
          cases e with
          | returned v => exact he
          | panicked c => exact h _ _ _ he
          | outgrown => obtain ⟨x, y, hxy⟩ := he; exact ⟨x, y, h _ _ _ hxy⟩
  | halt x w' => cases x <;> simp only [Oper.upon] at hh ⊢ <;> first | exact h _ _ _ hh | exact hh.elim
theorem wpOp_Q {i : Nat} {a : Act} {w : World} {K K' : Act → World → Prop} {Q' Q : Exit → Act → World → Prop} (h : ∀ e a w, Q' e a w → Q e a w) (hK : ∀ a w, K' a w → K a w) (hh : wpOp P ops Q' i K' a w) : wpOp P ops Q i K a w := by
  have hh := wpOp_mono hK hh
  unfold wpOp at hh ⊢
  split
  · rename_i ho; rw [ho] at hh; exact hh
  · rename_i o ho
    rw [ho] at hh
    simp only at hh
    split
    · rename_i hw
      rw [if_pos hw] at hh
      rcases hh with hh | ⟨h1, x, y, h2⟩
      · exact .inl (upon_Q h hh)
      · exact .inr ⟨h1, x, y, h _ _ _ h2⟩
    · rename_i hw
      rw [if_neg hw] at hh
      exact hh
theorem wpAny_Q {Q' Q : Exit → Act → World → Prop} (h : ∀ e a w, Q' e a w → Q e a w) : ∀ (fuel : Nat) (listed : Array Bool) (a : Act) (w : World), wpAny P .any ops Q' fuel listed a w → wpAny P .any ops Q fuel listed a w
  | 0, _, _, _, hh => ⟨hh.1, h _ _ _ hh.2⟩
  | fuel + 1, _, _, _, hh => ⟨fun he => h _ _ _ (hh.1 he), fun i hi => wpOp_Q h (fun a' w' h' => wpAny_Q h fuel _ a' w' h') (hh.2 i hi)⟩
end
def addL : Nat → Nat → List Oper → List Oper
  | _, _, [] => []
  | 0, q, o :: l => behind o q :: l
  | s + 1, q, o :: l => o :: addL s q l
theorem addL_get : ∀ (s q : Nat) (l : List Oper) (i : Nat), (addL s q l)[i]? = (l[i]?).map fun o => if i = s then behind o q else o
  | _, _, [], i => by simp [addL]
  | 0, q, o :: l, 0 => by simp [addL]
  | 0, q, o :: l, i + 1 => by simp [addL]
  | s + 1, q, o :: l, 0 => by simp [addL]
  | s + 1, q, o :: l, i + 1 => by simp [addL, addL_get s q l i]
theorem addL_arr (s q : Nat) (l : List Oper) : (addL s q l).toArray = addE s q l.toArray := by
  apply Array.ext_getElem?
  intro i
  rw [addE_get]
  simp [addL_get]
section
variable {c : Cx} {N : Nat} {X0 : Nat → Prop} {M : Nat → BV → Prop} {w0 : World} {K : Exit → St → Prop}
def onlyN (K : Exit → St → Prop) : Exit → St → Prop
  | .normal, st => K .normal st
  | _, _ => False
theorem WP.flowE {id : Nat} {l : List Oper} {st : St} (s q : Nat) (zs : List Nat) (m : Nat) (fl : List Fp) (ds mks gs : List Nat) (hE : edgeB l.toArray s q = true) (hB : flowB (addL s q l).toArray m fl = true)
    (hD : ((List.range m).all fun k => match dstAt (addL s q l).toArray k with | some d => ds.contains d | none => false) = true)
    (hM : ((List.range m).all fun k => ((fpAt fl k).mks.all fun d => mks.contains d) && ((fpAt fl k).gn.all fun d => gs.contains d)) = true) (hm : c.P.follows .mixedOrders = true)
    (h : St.runG c.tys c.C N (addL s q l).toArray fl ((st.fzS zs).clean ds mks) ((addL s q l).take m) 0 [] fun acc => St.runR c.tys c.C N (addL s q l).toArray ((addL s q l).drop m) (((st.fzS zs).clean ds mks).final acc gs) (K .normal)) : WP c N X0 M w0 (.region id l.toArray true) st K := by
  intro hA β a w hs0
  have hs := Sim.fzS hA zs hs0
  generalize st.fzS zs = st at hs h
  have hD0 := flowB_ok hB
  obtain ⟨F, h1, h2⟩ := runF_acc _ _ _ (runF_of_runG _ _ _ h)
  have harr := addL_arr s q l
  have hlen : ((addL s q l).take m).length = m := by
    have := hD0.le
    simp at this ⊢
    omega
  rw [hlen] at h1
  simp only [List.nil_append, Nat.zero_add] at h1 h2
  have hcl0 : ∀ t x, lk t (st.clean ds mks).fr = some x → lk t st.fr = some x ∧ t ∉ ds ∧ ∀ d ∈ mks, x.kill d = x := fun t x hx => by
    obtain ⟨e1, e2⟩ := hide_fr hx
    obtain ⟨e3, e4⟩ := offK_lk e1
    exact ⟨e3, e4, e2⟩
  have hMk : ∀ k, k < m → (∀ d ∈ (fpAt fl k).mks, d ∈ mks) ∧ ∀ d ∈ (fpAt fl k).gn, d ∈ gs := fun k hk => by
    have := List.all_eq_true.1 hM k (List.mem_range.2 hk)
    simp only [Bool.and_eq_true, List.all_eq_true] at this
    exact ⟨fun d hd => List.contains_iff_mem.1 (this.1 d hd), fun d hd => List.contains_iff_mem.1 (this.2 d hd)⟩
  obtain ⟨oq, hEo⟩ := edgeB_ok (P := c.P) hE
  have hsz : (addL s q l).toArray.size = l.toArray.size := by rw [harr]; unfold addE; rw [Array.size_modify]
  refine wp_region_any hm (wpAny_Q (Q' := fun e a' w' => Ok N X0 M w0 (onlyN K e) a' w') (fun e a' w' hk => ?_) _ _ _ _ (wpAny_edge hEo (fun e a' w' hne hk => ?_) _ _ _ _ (by simp) ?_))
  · cases e with
    | normal => exact hk
    | _ => obtain ⟨_, _, hf, _⟩ := hk; exact hf.elim
  · cases e with
    | normal => exact hne rfl
    | _ => obtain ⟨_, _, hf, _⟩ := hk; exact hf.elim
  rw [← harr, ← hsz]
  refine (flow_head (c := c) (K := onlyN K) hA hD0 (base := st.clean ds mks) (F := F) (gs := gs) (fun k o hk ho => ?_) (fun t x hx => ⟨fun k hk e => ?_, fun k hk d hd => (hcl0 t x hx).2.2 d ((hMk k hk).1 d hd)⟩) (fun t ob hx k hk d hd => (hide_hp hx).2 d ((hMk k hk).1 d hd)) (fun k hk => (hMk k hk).2) ?_
    (addL s q l).toArray.size (Array.replicate (addL s q l).toArray.size false) (st.clean ds mks) β a _ (by simp) (fun j _ hj => ?_) ?_ (fun b hb hl => ?_) ?_ (fun t x hx _ => hx) (fun k hk hl => ?_) (fun t ob hx _ => hx) (fun k hk hl => ?_))
  · have : ((addL s q l).take m)[k]? = some o := by rw [List.getElem?_take_of_lt hk]; simpa using ho
    exact h2 k o this
  · have := List.all_eq_true.1 hD k (List.mem_range.2 hk)
    rw [e] at this
    exact (hcl0 t x hx).2.1 (List.contains_iff_mem.1 this)
  · exact h1
  · rw [Array.getD_eq_getD_getElem?, Array.getElem?_replicate]; split <;> rfl
  · have : (List.range (addL s q l).toArray.size).countP (fun j => !(Array.replicate (addL s q l).toArray.size false).getD j false) = (List.range (addL s q l).toArray.size).countP (fun _ => true) := by
      apply List.countP_congr
      intro j hj
      rw [Array.getD_eq_getD_getElem?, Array.getElem?_replicate]; split <;> simp
    rw [this]; simp
  · rw [Array.getD_eq_getD_getElem?, Array.getElem?_replicate] at hl
    split at hl <;> cases hl
  · exact (hs.grow ((Go.RowKit.Below.refl _ _).drew) (fun b _ hb => .inl hb) hs.x0).less (fun t x hx => (hcl0 t x hx).1) (fun t ob hx => (hide_hp hx).1)
  · rw [Array.getD_eq_getD_getElem?, Array.getElem?_replicate] at hl
    split at hl <;> cases hl
  · rw [Array.getD_eq_getD_getElem?, Array.getElem?_replicate] at hl
    split at hl <;> cases hl
end
end Go.Vc

namespace Go.Proofs.Ytdbjioanlkilkaa
open Go.Vc
attribute [local go_sem] St.runR St.runW St.stepV offV St.step St.stepU St.stepG mkCond guardB St.prK St.pr St.prLen St.eff St.callE St.callD St.callF St.callL aI aB aS aR aC St.isM St.argL Ctr.pure Ctr.lend Ctr.move Ctr.isL Ctr.wri pur len lentBy St.lentV St.lent1 nthS argsR restOf obsR pairs swapL unObs backL St.resL erL SV.ren1 SV.up SV.up2 Ob.up St.fzL cellIds partIds St.intoRow SV.ownId St.fz SV.fz1 St.prep St.mvL St.mv SV.re1 rnOk St.prEq vals eqCells scEq Value.kd St.prStr St.prCut cutR St.bnd St.prMin St.bld isShift outL retL outJ oR oC oE oD SV.upq SV.isSl SV.shut St.ev St.get St.put St.new St.kill SV.kill SV.kill1 Ob.kill St.app St.wrt St.rowsOf St.res St.killL lk er argsL SV.strip SV.need SV.share SV.share1 SV.owns SV.owns1 SV.owns2 SV.good SV.good1 SV.rok SV.rok1 SV.rok2 SV.isV SV.isV2 nodupN SV.cells SV.one SV.pur Ob.pb partsIn rowsIn splice cellsAt dstOk scal2 scal1 thenK blockK retK outK outs okC okL okA okT nilC nilL nilA nilT keepC keepL keepA keepT St.runG St.dltK St.least St.clean St.final St.hide offK badS badO SV.refs SV.leaf SV.leaf2 Ob.refs dlOk fpAt Go.Vc.cover tups SV.ofAgg St.out outC subL St.has rng wr Value.oneCell' Option.isSome_some Option.isSome_none List.nil_append Bool.false_eq_true List.map_cons List.map_nil List.all_cons List.all_nil List.length_cons List.length_nil List.drop_zero List.drop_succ_cons List.take_succ_cons List.take_zero List.drop_nil List.take_nil List.getElem?_cons_zero List.getElem?_cons_succ List.getElem?_nil List.cons_append List.nil_append List.append_nil List.append_assoc List.flatMap_cons List.flatMap_nil List.contains_cons List.contains_nil List.set_cons_zero List.set_cons_succ List.getElem?_toArray Option.getD_some Option.getD_none Option.map_some Option.map_none Option.bind_some Option.some.injEq Prod.mk.injEq if_true if_false true_and and_true and_self and_false false_and Bool.and_false Bool.false_and Bool.or_true Bool.true_or Bool.or_false Bool.false_or ne_eq not_true_eq_false not_false_eq_true decide_true decide_false List.mem_cons List.not_mem_nil List.filter_cons List.filter_nil List.any_cons List.any_nil List.isEmpty_nil List.isEmpty_cons Option.getD_none or_false false_or true_or or_true forall_eq_or_imp forall_eq reduceCtorEq exists_eq exists_eq' exists_eq_left' exists_eq_left exists_eq_right exists_eq_right' imp_self implies_true Bool.and_true Bool.true_and Bool.and_self beq_self_eq_true List.replicate_succ List.replicate_zero forall_const false_implies pickB_or pickB_and beqT beqF Int.toNat_natCast List.length_map List.length_replicate ge_iff_le gt_iff_lt decide_eq_true_eq decide_eq_false_iff_not Bool.and_eq_true Bool.or_eq_true Bool.not_eq_true' Bool.not_eq_false' condG List.toList_toArray Bool.or_eq_false_iff Bool.and_eq_false_iff Int.not_lt Int.not_le beq_iff_eq beq_eq_false_iff_ne bne_iff_ne bne_eq_false_iff_eq ne_eq Bool.not_true Bool.not_false exists_and_left
section
open Go.Vc
set_option linter.unusedSimpArgs false
set_option linter.unusedVariables false
set_option maxHeartbeats 1000000
set_option maxRecDepth 10000
attribute [local irreducible] Go.Vc.WP
attribute [local go_sem] cx0_t cx0_c
def fl3350825a63 : List Go.Vc.Fp := [⟨[6], [], [], [9, 32, 1032], [], []⟩, ⟨[8], [], [], [9, 32, 1032], [], []⟩, ⟨[1], [], [], [9, 32, 1032], [], []⟩, ⟨[7], [], [], [9, 32, 1032], [], []⟩, ⟨[28, 29], [2, 3], [], [9, 32, 1032], [], []⟩, ⟨[30], [2, 3, 4], [], [9, 32, 1032], [], []⟩, ⟨[26, 27, 31], [0, 1, 2, 3, 4, 5], [], [9], [], [32, 1032]⟩, ⟨[32], [0, 1, 2, 3, 4, 5, 6], [], [9], [], []⟩, ⟨[25], [0, 1, 2, 3, 4, 5, 6, 7], [], [9], [], []⟩, ⟨[25], [0, 1, 2, 3, 4, 5, 6, 7], [], [9], [], []⟩, ⟨[], [], [], [32, 1032], [], [9]⟩, ⟨[], [0, 1, 2, 3, 4, 5, 6, 7, 8, 9, 10], [], [], [], []⟩, ⟨[], [0, 1, 2, 3, 4, 5, 6, 7, 8, 9, 10, 11], [], [], [], []⟩]
attribute [local go_sem] fl3350825a63
attribute [local go_sem] isV_Node isV_It decNode_enc decFrame_enc oneFrame_enc stkA oneFrame_ab oneNode_abc decI_enc aU prA St.ado St.adoptB St.adoptS rp isNil St.fzS addL behind
/-- a list of frames as a cell -/
def encFS (F : List Frame) : List SV := [.sl 2 (F.map encFrame)]
def oneFS : List SV → List Frame
  | [.sl _ rows] => decFrame rows
  | _ => []
def decFS (rows : List (List SV)) : List (List Frame) := rows.map oneFS
theorem decFS_enc (L : List (List Frame)) : decFS (L.map encFS) = L := by
  unfold decFS
  rw [List.map_map]
  conv => rhs; rw [← List.map_id L]
  apply List.map_congr_left
  intro x _
  exact decFrame_enc x
attribute [local go_sem] decFS_enc
abbrev Pr := List Node × List Int
def wgGo : List (List Frame) → List Int → Pr → Option Pr
  | F :: S, c :: W, p => if (addStack p.1 p.2 F c).2 = true then wgGo S W (addStack p.1 p.2 F c).1 else none
  | _, _, p => some p
def weigh (S : List (List Frame)) (W : List Int) : Option Pr := if S.length = W.length then wgGo S W ([], []) else none
def preWg (x : List (List Frame) × List Int) : Prop := x.1.length ≤ 1048576 ∧ ∀ F ∈ x.1, F.length ≤ 1048576 ∧ ∀ f ∈ F, f.name.size ≤ 1048576
def kWg : Ctr := pur (fun args => (decFS (aR args 0), decI (aR args 1))) (fun x => [.sl 1 (x.1.map encFS), .sl 1 (x.2.map encI)]) preWg
  (fun d x => .tup [.agg [.own d, .own (d + 1000)], .v (.bool (weigh x.1 x.2).isSome)]) (fun d x => [(d, .sl 187 3 (((weigh x.1 x.2).getD ([], [])).1.map encNode)), (d + 1000, .sl 3 1 (((weigh x.1 x.2).getD ([], [])).2.map encI))])
def wInv (S : List (List Frame)) (W : List Int) (k : Nat) (s : Pr) : Prop := weigh S W = wgGo (S.drop k) (W.drop k) s ∧ s.1.length ≤ 1048576 * k ∧ s.2.length ≤ 1048576 * k ∧ ∀ x ∈ s.1, x.name.size ≤ 1048576
theorem wInv_zero {S : List (List Frame)} {W : List Int} (h : S.length = W.length) : wInv S W 0 ([], []) := ⟨if_pos h, by simp, by simp, by simp⟩
theorem wInv_bad {S : List (List Frame)} {W : List Int} {k : Nat} {s : Pr} (h : wInv S W k s) (h1 : k < S.length) (h2 : k < W.length) (hb : (addStack s.1 s.2 S[k] W[k]).2 = false) : weigh S W = none := by
  rw [h.1, List.drop_eq_getElem_cons h1, List.drop_eq_getElem_cons h2, wgGo, if_neg (by rw [hb]; simp)]
theorem wInv_ok {S : List (List Frame)} {W : List Int} {k : Nat} {s : Pr} (hx : preWg (S, W)) (h : wInv S W k s) (h1 : k < S.length) (h2 : k < W.length) (hb : (addStack s.1 s.2 S[k] W[k]).2 = true) : wInv S W (k + 1) (addStack s.1 s.2 S[k] W[k]).1 := by
  obtain ⟨g1, g2, g3, g4⟩ := h
  obtain ⟨g5, g6⟩ := hx.2 _ (List.getElem_mem h1)
  have g8 := addStack_len s.1 s.2 S[k] W[k]
  refine ⟨?_, by omega, by omega, addStack_names g4 g6⟩
  rw [g1, List.drop_eq_getElem_cons h1, List.drop_eq_getElem_cons h2, wgGo, if_pos hb]
theorem wInv_end {S : List (List Frame)} {W : List Int} {k : Nat} {s : Pr} (h : wInv S W k s) (hk : S.length ≤ k) : weigh S W = some s := by
  rw [h.1, List.drop_of_length_le hk]; unfold wgGo; rfl
section
noncomputable def cxWgI : Cx := { P := Try.prog, tys := tys, C := [(61, kAddStack)], hty := tysOk, hC := COk.cons cAddStackI (COk.nil _) }
theorem cxWgI_t : cxWgI.tys = tys := rfl
theorem cxWgI_c : cxWgI.C = [(61, kAddStack)] := rfl
attribute [local go_sem] cxWgI_t cxWgI_c kAddStack
theorem cWgI : Cn Try.prog 29 kWg := by
  refine Cn.pur Try.func29 (by kernel_rfl) rfl fun d x hx => ?_
  obtain ⟨S, W⟩ := x
  have hS := hx.1
  simp only at hS ⊢
  refine Holds.go (c := cxWgI) Try.func29 rfl Try.results29 Try.ntmps29 (by omega) (by simp) rfl ?_
  intro X0 w0
  by_cases hlen : S.length = W.length
  rotate_left
  · have hle : ¬ (S.length : Int) = W.length := by omega
    have hno : weigh S W = none := if_neg hlen
    (repeat' (first | refine WP.seq ?_ | refine WP.block ?_ | ((first | refine WP.region ?_ | refine WP.condW ?_ | refine WP.ret ?_ | refine WP.exit ?_ | refine WP.skip ?_); simp only [go_sem, hle, tyAll, Nat.reduceAdd, Nat.reduceLT, Nat.reduceLeDiff, Nat.reduceEqDiff, Nat.reduceMul, Nat.reduceSub, Nat.reduceGT, reduceIte, Int.reduceNeg, Int.reduceToNat]) | ((first | refine WP.flowE 11 9 [] 11 fl3350825a63 [9, 25, 26, 27, 28, 29, 30, 31, 32, 33, 34] [9, 32, 1032] [] (by decide +kernel) (by decide +kernel) (by kernel_rfl) (by kernel_rfl) (by kernel_rfl) ?_); simp only [go_sem, hle, tyAll, Nat.reduceAdd, Nat.reduceLT, Nat.reduceLeDiff, Nat.reduceEqDiff, Nat.reduceMul, Nat.reduceSub, Nat.reduceGT, reduceIte, Int.reduceNeg, Int.reduceToNat]) |  refine And.intro ?_ ?_ | intro _))
    all_goals first | omega | exact ⟨_, _, rfl, _, _, rfl, rfl⟩ | (rw [hno]; first | rfl | exact ⟨_, _, rfl⟩ | exact ⟨_, _, if_neg (by omega)⟩ | exact if_neg (by omega)) | skip
    all_goals trace_state
  have hle : (S.length : Int) = W.length := by omega
  (repeat' (first | refine WP.seq ?_ | refine WP.block ?_ | ((first | refine WP.region ?_ | refine WP.condW ?_ | refine WP.ret ?_ | refine WP.exit ?_ | refine WP.skip ?_); simp only [go_sem, hle, tyAll, Nat.reduceAdd, Nat.reduceLT, Nat.reduceLeDiff, Nat.reduceEqDiff, Nat.reduceMul, Nat.reduceSub, Nat.reduceGT, reduceIte, Int.reduceNeg, Int.reduceToNat]) | ((first | refine WP.flowE 11 9 [] 11 fl3350825a63 [9, 25, 26, 27, 28, 29, 30, 31, 32, 33, 34] [9, 32, 1032] [] (by decide +kernel) (by decide +kernel) (by kernel_rfl) (by kernel_rfl) (by kernel_rfl) ?_); simp only [go_sem, hle, tyAll, Nat.reduceAdd, Nat.reduceLT, Nat.reduceLeDiff, Nat.reduceEqDiff, Nat.reduceMul, Nat.reduceSub, Nat.reduceGT, reduceIte, Int.reduceNeg, Int.reduceToNat]) |  refine And.intro ?_ ?_ | intro _))
  all_goals first | omega | skip
  refine WP.ado [.b 6 0 32 187 3, .b 6 1 1032 3 1] ?_
  refine WP.loop (fun q : Nat × Pr => ⟨[(1, .sl 1 (W.map encI)), (4, .ptr 4 0 0 0), (6, .ptr 6 0 0 0), (18, .sl 1 (S.map encFS)), (19, .v (.int .i64 S.length)), (20, .v (.int .i64 q.1))],
    [(4, .box 43 [.v (.slice none 0 0), .v (.slice none 0 0)]), (6, .box 43 [.own 32, .own 1032]), (32, .sl 187 3 (q.2.1.map encNode)), (1032, .sl 3 1 (q.2.2.map encI))]⟩)
    (fun q => q.1 ≤ S.length ∧ wInv S W q.1 q.2) (fun q => S.length - q.1) (0, [], []) ⟨by simp, wInv_zero hlen⟩ ?_ ?_
  · (simp only [go_sem, hle, tyAll, Nat.reduceAdd, Nat.reduceLT, Nat.reduceLeDiff, Nat.reduceEqDiff, Nat.reduceMul, Nat.reduceSub, Nat.reduceGT, reduceIte, Int.reduceNeg, Int.reduceToNat] <;> (first | rfl | exact ⟨rfl, rfl⟩ | exact ⟨rfl, rfl, rfl⟩ | exact ⟨rfl, rfl, rfl, rfl⟩ | exact ⟨rfl, rfl, rfl, rfl, rfl⟩ | exact ⟨⟨rfl, rfl⟩, rfl⟩ | simp))
  rintro ⟨k, N, C⟩ ⟨hk, hI⟩
  refine WP.prep [] [(32, 50), (1032, 1050)] rfl ?_
  simp only at hk hI ⊢
  have h2 := hI.2.1
  have h3 := hI.2.2.1
  have h4 := hI.2.2.2
  simp only at h2 h3 h4
  have hkb : 1048576 * k ≤ 1048576 * 1048576 := Nat.mul_le_mul_left _ (by omega)
  have hnb : ∀ x ∈ N, x.name.size ≤ 1099511627776 := fun x hx => by have := h4 x hx; omega
  by_cases hlt : k < S.length
  · have hli : (k : Int) < S.length := by omega
    have hlw : (k : Int) < W.length := by omega
    have hlt2 : k < W.length := by omega
    have h1 := rowAt_map encFS S k hlt
    have h1b := rowAt_map encI W k hlt2
    obtain ⟨h5, h6⟩ := hx.2 _ (List.getElem_mem hlt)
    have hfb : ∀ g ∈ S[k], g.name.size ≤ 1099511627776 := fun g hg => by have := h6 g hg; omega
    cases hb : (addStack N C S[k] W[k]).2 with
    | false =>
      have hno := wInv_bad hI hlt hlt2 hb
      (repeat' (first | refine WP.seq ?_ | refine WP.block ?_ | ((first | refine WP.region ?_ | refine WP.condW ?_ | refine WP.ret ?_ | refine WP.exit ?_ | refine WP.skip ?_); simp only [go_sem, hli, hlw, h1, encFS, h1b, encI, hb, tyAll, Nat.reduceAdd, Nat.reduceLT, Nat.reduceLeDiff, Nat.reduceEqDiff, Nat.reduceMul, Nat.reduceSub, Nat.reduceGT, reduceIte, Int.reduceNeg, Int.reduceToNat]) | ((first | refine WP.flowE 11 9 [] 11 fl3350825a63 [9, 25, 26, 27, 28, 29, 30, 31, 32, 33, 34] [9, 32, 1032] [] (by decide +kernel) (by decide +kernel) (by kernel_rfl) (by kernel_rfl) (by kernel_rfl) ?_); simp only [go_sem, hli, hlw, h1, encFS, h1b, encI, hb, tyAll, Nat.reduceAdd, Nat.reduceLT, Nat.reduceLeDiff, Nat.reduceEqDiff, Nat.reduceMul, Nat.reduceSub, Nat.reduceGT, reduceIte, Int.reduceNeg, Int.reduceToNat]) |  refine And.intro ?_ ?_ | intro _))
      all_goals first | omega | (simp only; omega) | exact hnb _ ‹_› | exact hfb _ ‹_› | exact ⟨_, _, _, rfl⟩ | exact ⟨_, _, rfl, _, _, rfl, rfl⟩ | (rw [hno]; first | rfl | exact ⟨_, _, rfl⟩ | exact ⟨_, _, if_neg (by omega)⟩ | exact if_neg (by omega)) | skip
      all_goals trace_state
    | true =>
      have hyes := wInv_ok hx hI hlt hlt2 hb
      (repeat' (first | refine WP.seq ?_ | refine WP.block ?_ | ((first | refine WP.region ?_ | refine WP.condW ?_ | refine WP.ret ?_ | refine WP.exit ?_ | refine WP.skip ?_); simp only [go_sem, hli, hlw, h1, encFS, h1b, encI, hb, tyAll, Nat.reduceAdd, Nat.reduceLT, Nat.reduceLeDiff, Nat.reduceEqDiff, Nat.reduceMul, Nat.reduceSub, Nat.reduceGT, reduceIte, Int.reduceNeg, Int.reduceToNat]) | ((first | refine WP.flowE 11 9 [] 11 fl3350825a63 [9, 25, 26, 27, 28, 29, 30, 31, 32, 33, 34] [9, 32, 1032] [] (by decide +kernel) (by decide +kernel) (by kernel_rfl) (by kernel_rfl) (by kernel_rfl) ?_); simp only [go_sem, hli, hlw, h1, encFS, h1b, encI, hb, tyAll, Nat.reduceAdd, Nat.reduceLT, Nat.reduceLeDiff, Nat.reduceEqDiff, Nat.reduceMul, Nat.reduceSub, Nat.reduceGT, reduceIte, Int.reduceNeg, Int.reduceToNat]) |  refine And.intro ?_ ?_ | intro _))
      all_goals first | omega | (simp only; omega) | exact hnb _ ‹_› | exact hfb _ ‹_› | exact ⟨_, _, _, rfl⟩ | exact ⟨_, _, rfl, _, _, rfl, rfl⟩ | skip
      all_goals first | exact ⟨(k + 1, (addStack N C S[k] W[k]).1), ⟨by simp only; omega, hyes⟩, by simp only; omega, rfl, rfl, rfl⟩ | trace_state
  · have hge : ¬ (k : Int) < S.length := by omega
    have he := wInv_end hI (by omega)
    (repeat' (first | refine WP.seq ?_ | refine WP.block ?_ | ((first | refine WP.region ?_ | refine WP.condW ?_ | refine WP.ret ?_ | refine WP.exit ?_ | refine WP.skip ?_); simp only [go_sem, hge, tyAll, Nat.reduceAdd, Nat.reduceLT, Nat.reduceLeDiff, Nat.reduceEqDiff, Nat.reduceMul, Nat.reduceSub, Nat.reduceGT, reduceIte, Int.reduceNeg, Int.reduceToNat]) | ((first | refine WP.flowE 11 9 [] 11 fl3350825a63 [9, 25, 26, 27, 28, 29, 30, 31, 32, 33, 34] [9, 32, 1032] [] (by decide +kernel) (by decide +kernel) (by kernel_rfl) (by kernel_rfl) (by kernel_rfl) ?_); simp only [go_sem, hge, tyAll, Nat.reduceAdd, Nat.reduceLT, Nat.reduceLeDiff, Nat.reduceEqDiff, Nat.reduceMul, Nat.reduceSub, Nat.reduceGT, reduceIte, Int.reduceNeg, Int.reduceToNat]) |  refine And.intro ?_ ?_ | intro _))
    all_goals first | omega | exact ⟨_, _, rfl, _, _, rfl, rfl⟩ | (rw [he]; first | rfl | exact if_neg (by omega)) | skip
    all_goals trace_state
end
end
end Go.Proofs.Ytdbjioanlkilkaa
/-
  DERIVED. Sizes as plain functions: what is left is no more than it was, or -1.
-/
namespace Go.Proofs.Ytdbjioanlkilkaa
def szA (n : Nat) (l : Int) : Int := if l - n < 0 then -1 else l - n
def szL : List (Int → Int) → Int → Int
  | [], l => l
  | f :: fs, l => if f l < 0 then -1 else szL fs (f l)
theorem szL_drop (F : List (Int → Int)) (k : Nat) (l : Int) (h : k < F.length) : szL (F.drop k) l = if F[k] l < 0 then -1 else szL (F.drop (k + 1)) (F[k] l) := by
  rw [List.drop_eq_getElem_cons h]; rfl
def szList (F : List (Int → Int)) (l : Int) : Int := if l - F.length < 0 then -1 else szL F (l - F.length)
/-- a size is taken off: what is left is no more than it was, or -1 -/
def Szf (f : Int → Int) : Prop := ∀ l, 0 ≤ l → -1 ≤ f l ∧ f l ≤ l
theorem szA_f (n : Nat) : Szf (szA n) := fun l h => by unfold szA; split <;> omega
theorem szL_f : ∀ (F : List (Int → Int)), (∀ f ∈ F, Szf f) → Szf (szL F)
  | [], _, l, h => by unfold szL; omega
  | f :: fs, hF, l, h => by
    have h1 := hF f List.mem_cons_self l h
    unfold szL
    split
    · omega
    · have := szL_f fs (fun g hg => hF g (List.mem_cons_of_mem _ hg)) (f l) (by omega)
      omega
theorem szList_f (F : List (Int → Int)) (hF : ∀ f ∈ F, Szf f) : Szf (szList F) := fun l h => by
  unfold szList
  split
  · omega
  · have := szL_f F hF (l - F.length) (by omega)
    omega
theorem szL_ok : ∀ (F : List (Int → Int)) (l : Int), (∀ f ∈ F, Szf f) → 0 ≤ l → 0 ≤ szL F l → ∀ f ∈ F, ∃ r, 0 ≤ r ∧ r ≤ l ∧ 0 ≤ f r
  | [], l, _, _, _ => by simp
  | g :: fs, l, hF, h0, h => by
    have h1 := hF g List.mem_cons_self l h0
    unfold szL at h
    split at h
    · omega
    · rename_i hg
      intro f hf
      rcases List.mem_cons.1 hf with rfl | hf
      · exact ⟨l, h0, by omega, by omega⟩
      · obtain ⟨r, a, b, c⟩ := szL_ok fs (g l) (fun g hg => hF g (List.mem_cons_of_mem _ hg)) (by omega) h f hf
        exact ⟨r, a, by omega, c⟩
theorem szList_ok {F : List (Int → Int)} {l : Int} (hF : ∀ f ∈ F, Szf f) (h : 0 ≤ szList F l) : F.length ≤ l ∧ ∀ f ∈ F, ∃ r, 0 ≤ r ∧ r ≤ l ∧ 0 ≤ f r := by
  unfold szList at h
  split at h
  · omega
  · refine ⟨by omega, fun f hf => ?_⟩
    obtain ⟨r, a, b, c⟩ := szL_ok F (l - F.length) hF (by omega) h f hf
    exact ⟨r, a, by omega, c⟩
theorem szf_neg {f : Int → Int} (hf : Szf f) {l : Int} (h0 : 0 ≤ l) (h : f l < 0) : f l = -1 := by have := hf l h0; omega
/-- one size, and then another of what it leaves -/
def szT (f g : Int → Int) (l : Int) : Int := if f l < 0 then -1 else g (f l)
theorem szT_f {f g : Int → Int} (hf : Szf f) (hg : Szf g) : Szf (szT f g) := fun l h => by
  have h1 := hf l h
  unfold szT
  split
  · omega
  · have := hg (f l) (by omega); omega
theorem szT_ok {f g : Int → Int} (hf : Szf f) {l : Int} (h0 : 0 ≤ l) (h : 0 ≤ szT f g l) : 0 ≤ f l ∧ f l ≤ l ∧ 0 ≤ g (f l) := by
  have h1 := hf l h0
  unfold szT at h
  split at h <;> omega
theorem szGo_f : ∀ (L : List Nat), Szf (szGo L)
  | [], l, h => by unfold szGo; omega
  | n :: L, l, h => by
    unfold szGo
    split
    · omega
    · have := szGo_f L (l - n) (by omega); omega
end Go.Proofs.Ytdbjioanlkilkaa

namespace Go.Proofs.Ytdbjioanlkilkaa
open Go.Vc
attribute [local go_sem] St.runR St.runW St.stepV offV St.step St.stepU St.stepG mkCond guardB St.prK St.pr St.prLen St.eff St.callE St.callD St.callF St.callL aI aB aS aR aC St.isM St.argL Ctr.pure Ctr.lend Ctr.move Ctr.isL Ctr.wri pur len lentBy St.lentV St.lent1 nthS argsR restOf obsR pairs swapL unObs backL St.resL erL SV.ren1 SV.up SV.up2 Ob.up St.fzL cellIds partIds St.intoRow SV.ownId St.fz SV.fz1 St.prep St.mvL St.mv SV.re1 rnOk St.prEq vals eqCells scEq Value.kd St.prStr St.prCut cutR St.bnd St.prMin St.bld isShift outL retL outJ oR oC oE oD SV.upq SV.isSl SV.shut St.ev St.get St.put St.new St.kill SV.kill SV.kill1 Ob.kill St.app St.wrt St.rowsOf St.res St.killL lk er argsL SV.strip SV.need SV.share SV.share1 SV.owns SV.owns1 SV.owns2 SV.good SV.good1 SV.rok SV.rok1 SV.rok2 SV.isV SV.isV2 nodupN SV.cells SV.one SV.pur Ob.pb partsIn rowsIn splice cellsAt dstOk scal2 scal1 thenK blockK retK outK outs okC okL okA okT nilC nilL nilA nilT keepC keepL keepA keepT St.runG St.dltK St.least St.clean St.final St.hide offK badS badO SV.refs SV.leaf SV.leaf2 Ob.refs dlOk fpAt Go.Vc.cover tups SV.ofAgg St.out outC subL St.has rng wr Value.oneCell' Option.isSome_some Option.isSome_none List.nil_append Bool.false_eq_true List.map_cons List.map_nil List.all_cons List.all_nil List.length_cons List.length_nil List.drop_zero List.drop_succ_cons List.take_succ_cons List.take_zero List.drop_nil List.take_nil List.getElem?_cons_zero List.getElem?_cons_succ List.getElem?_nil List.cons_append List.nil_append List.append_nil List.append_assoc List.flatMap_cons List.flatMap_nil List.contains_cons List.contains_nil List.set_cons_zero List.set_cons_succ List.getElem?_toArray Option.getD_some Option.getD_none Option.map_some Option.map_none Option.bind_some Option.some.injEq Prod.mk.injEq if_true if_false true_and and_true and_self and_false false_and Bool.and_false Bool.false_and Bool.or_true Bool.true_or Bool.or_false Bool.false_or ne_eq not_true_eq_false not_false_eq_true decide_true decide_false List.mem_cons List.not_mem_nil List.filter_cons List.filter_nil List.any_cons List.any_nil List.isEmpty_nil List.isEmpty_cons Option.getD_none or_false false_or true_or or_true forall_eq_or_imp forall_eq reduceCtorEq exists_eq exists_eq' exists_eq_left' exists_eq_left exists_eq_right exists_eq_right' imp_self implies_true Bool.and_true Bool.true_and Bool.and_self beq_self_eq_true List.replicate_succ List.replicate_zero forall_const false_implies pickB_or pickB_and beqT beqF Int.toNat_natCast List.length_map List.length_replicate ge_iff_le gt_iff_lt decide_eq_true_eq decide_eq_false_iff_not Bool.and_eq_true Bool.or_eq_true Bool.not_eq_true' Bool.not_eq_false' condG List.toList_toArray Bool.or_eq_false_iff Bool.and_eq_false_iff Int.not_lt Int.not_le beq_iff_eq beq_eq_false_iff_ne bne_iff_ne bne_eq_false_iff_eq ne_eq Bool.not_true Bool.not_false exists_and_left
section
open Go.Vc
set_option linter.unusedSimpArgs false
set_option linter.unusedVariables false
set_option maxHeartbeats 1000000
set_option maxRecDepth 10000
attribute [local irreducible] Go.Vc.WP
attribute [local go_sem] cx0_t cx0_c
def keqS : Ctr := pur (fun args => (decS (aR args 0), decS (aR args 1))) (fun x => [.sl 1 (x.1.map encS), .sl 1 (x.2.map encS)]) (fun x => x.1.length ≤ 4398046511104) (fun _ x => .v (.bool (decide (x.1 = x.2)))) (fun _ _ => [])
theorem ceqS : Cn Try.prog 86 keqS := by
  refine Cn.pur Try.func86 (by kernel_rfl) rfl fun d x hx => ?_
  obtain ⟨L, M⟩ := x
  simp only at hx ⊢
  refine Holds.go (c := cx0) Try.func86 rfl Try.results86 Try.ntmps86 (by omega) (by simp) rfl ?_
  intro X0 w0
  (repeat' (first | refine WP.seq ?_ | refine WP.block ?_ | ((first | refine WP.region ?_ | refine WP.condW ?_ | refine WP.ret ?_ | refine WP.exit ?_ | refine WP.skip ?_); simp only [go_sem, tyAll, Nat.reduceAdd, Nat.reduceLT, Nat.reduceLeDiff, Nat.reduceEqDiff, Nat.reduceMul, Nat.reduceSub, Nat.reduceGT, reduceIte, Int.reduceNeg, Int.reduceToNat]) | ((first | refine WP.drawW 9 (by decide +kernel) (by kernel_rfl) ?_); simp only [go_sem, tyAll, Nat.reduceAdd, Nat.reduceLT, Nat.reduceLeDiff, Nat.reduceEqDiff, Nat.reduceMul, Nat.reduceSub, Nat.reduceGT, reduceIte, Int.reduceNeg, Int.reduceToNat]) |  refine And.intro ?_ ?_ | intro _))
  · simp; intro h; subst h; simp_all
  have hlen : L.length = M.length := by omega
  refine WP.loop (fun k : Nat => ⟨[(0, .sl 1 (L.map encS)), (1, .sl 1 (M.map encS)), (5, .v (.int .i64 k))], []⟩) (fun k => k ≤ L.length ∧ L.take k = M.take k) (fun k => L.length - k) 0 (by simp) ?_ ?_
  · (simp only [go_sem, tyAll, Nat.reduceAdd, Nat.reduceLT, Nat.reduceLeDiff, Nat.reduceEqDiff, Nat.reduceMul, Nat.reduceSub, Nat.reduceGT, reduceIte, Int.reduceNeg, Int.reduceToNat] <;> (first | rfl | exact ⟨rfl, rfl⟩ | exact ⟨rfl, rfl, rfl⟩ | exact ⟨rfl, rfl, rfl, rfl⟩ | exact ⟨rfl, rfl, rfl, rfl, rfl⟩ | exact ⟨⟨rfl, rfl⟩, rfl⟩ | simp))
  intro k ⟨hk, ht⟩
  by_cases hlt : k < L.length
  · have h1 := rowAt_map encS L k hlt
    have h2 := rowAt_map encS M k (by omega)
    (repeat' (first | refine WP.seq ?_ | refine WP.block ?_ | ((first | refine WP.region ?_ | refine WP.condW ?_ | refine WP.ret ?_ | refine WP.exit ?_ | refine WP.skip ?_); simp only [go_sem, h1, h2, encS, tyAll, Nat.reduceAdd, Nat.reduceLT, Nat.reduceLeDiff, Nat.reduceEqDiff, Nat.reduceMul, Nat.reduceSub, Nat.reduceGT, reduceIte, Int.reduceNeg, Int.reduceToNat]) | ((first | refine WP.drawW 9 (by decide +kernel) (by kernel_rfl) ?_); simp only [go_sem, h1, h2, encS, tyAll, Nat.reduceAdd, Nat.reduceLT, Nat.reduceLeDiff, Nat.reduceEqDiff, Nat.reduceMul, Nat.reduceSub, Nat.reduceGT, reduceIte, Int.reduceNeg, Int.reduceToNat]) |  refine And.intro ?_ ?_ | intro _))
    all_goals first | omega | skip
    · rename_i hne
      rw [show decide (L = M) = false from decide_eq_false fun e => by subst e; exact hne rfl]
    · rename_i he
      refine ⟨k + 1, ⟨by omega, ?_⟩, by omega, rfl⟩
      rw [List.take_succ_eq_append_getElem hlt, List.take_succ_eq_append_getElem (by omega : k < M.length), ht, he]
  · (repeat' (first | refine WP.seq ?_ | refine WP.block ?_ | ((first | refine WP.region ?_ | refine WP.condW ?_ | refine WP.ret ?_ | refine WP.exit ?_ | refine WP.skip ?_); simp only [go_sem, tyAll, Nat.reduceAdd, Nat.reduceLT, Nat.reduceLeDiff, Nat.reduceEqDiff, Nat.reduceMul, Nat.reduceSub, Nat.reduceGT, reduceIte, Int.reduceNeg, Int.reduceToNat]) | ((first | refine WP.drawW 9 (by decide +kernel) (by kernel_rfl) ?_); simp only [go_sem, tyAll, Nat.reduceAdd, Nat.reduceLT, Nat.reduceLeDiff, Nat.reduceEqDiff, Nat.reduceMul, Nat.reduceSub, Nat.reduceGT, reduceIte, Int.reduceNeg, Int.reduceToNat]) |  refine And.intro ?_ ?_ | intro _))
    all_goals first | omega | skip
    rw [show decide (L = M) = true from decide_eq_true ?_]
    rw [show k = L.length by omega, List.take_length, hlen, List.take_length] at ht
    exact ht

def marksS (k : Int) (n : Nat) : List ByteArray := (List.range n).map fun i : Nat => markT (k + (i : Int))
theorem marksS_len (k : Int) (n : Nat) : (marksS k n).length = n := by simp [marksS]
def halfS (L : List ByteArray) (k0 : Int) (k : Nat) : List ByteArray := marksS k0 k ++ L.drop k
theorem halfS_len (L : List ByteArray) (k0 : Int) (k : Nat) (h : k ≤ L.length) : (halfS L k0 k).length = L.length := by simp [halfS, marksS_len]; omega
theorem halfS_set (L : List ByteArray) (k0 : Int) (k : Nat) (h : k < L.length) : ((halfS L k0 k).map encS).set k (encS (markT (k0 + k))) = (halfS L k0 (k + 1)).map encS := by
  rw [← List.map_set]
  congr 1
  unfold halfS
  rw [List.set_append, if_neg (by simp [marksS_len]), marksS_len, Nat.sub_self, List.drop_eq_getElem_cons h, List.set_cons_zero]
  simp [marksS, List.range_succ]
def kmarkS : Ctr := len [0] [] (fun args obs => (decS (oR obs 1000000), aI args 1)) (fun x => [.own 1000000, .v (.int .i64 x.2)]) (fun x => [(1000000, .sl 9 1 (x.1.map encS))]) (fun x => x.1.length ≤ 4398046511104 ∧ 0 ≤ x.2 ∧ x.2 ≤ 500000000000000)
  (fun _ x => .v (.int .i64 (x.2 + x.1.length))) (fun _ _ => []) (fun x => [(1000000, .sl 9 1 ((marksS x.2 x.1.length).map encS))])
section
noncomputable def cxMs : Cx := { P := Try.prog, tys := tys, C := [(46, kmarkT)], hty := tysOk, hC := COk.cons cmarkT (COk.nil _) }
theorem cxMs_t : cxMs.tys = tys := rfl
theorem cxMs_c : cxMs.C = [(46, kmarkT)] := rfl
attribute [local go_sem] cxMs_t cxMs_c kmarkT
theorem cmarkS : Cn Try.prog 47 kmarkS := by
  refine Cn.len Try.func47 (by kernel_rfl) rfl fun d x hd hx => ?_
  obtain ⟨L, k0⟩ := x
  obtain ⟨hL, h0, h1⟩ := hx
  simp only at hL h0 h1 ⊢
  refine HoldsL.go (c := cxMs) Try.func47 rfl Try.results47 Try.ntmps47 (by omega) (by simp) rfl (by simp <;> omega) (by simp [SV.owns2, SV.owns, SV.owns1]) (by simp) rfl rfl (by simp) ?_
  intro X0 M w0
  (repeat' (first | refine WP.seq ?_ | refine WP.block ?_ | ((first | refine WP.region ?_ | refine WP.condW ?_ | refine WP.ret ?_ | refine WP.exit ?_ | refine WP.skip ?_); simp only [go_sem, tyAll, Nat.reduceAdd, Nat.reduceLT, Nat.reduceLeDiff, Nat.reduceEqDiff, Nat.reduceMul, Nat.reduceSub, Nat.reduceGT, reduceIte, Int.reduceNeg, Int.reduceToNat]) |  refine And.intro ?_ ?_ | intro _))
  refine WP.loop (fun k : Nat => ⟨[(0, .own 1000000), (1, .v (.int .i64 (k0 + k))), (5, .v (.int .i64 k))], [(1000000, .sl 9 1 ((halfS L k0 k).map encS))]⟩) (fun k => k ≤ L.length) (fun k => L.length - k) 0 (by omega) ?_ ?_
  · have e : halfS L k0 0 = L := by simp [halfS, marksS]
    rw [e]; (simp only [go_sem, tyAll, Nat.reduceAdd, Nat.reduceLT, Nat.reduceLeDiff, Nat.reduceEqDiff, Nat.reduceMul, Nat.reduceSub, Nat.reduceGT, reduceIte, Int.reduceNeg, Int.reduceToNat] <;> (first | rfl | exact ⟨rfl, rfl⟩ | exact ⟨rfl, rfl, rfl⟩ | exact ⟨rfl, rfl, rfl, rfl⟩ | exact ⟨rfl, rfl, rfl, rfl, rfl⟩ | exact ⟨⟨rfl, rfl⟩, rfl⟩ | simp))
  intro k hk
  have h2 := halfS_len L k0 k hk
  by_cases hlt : k < L.length
  · have h3 := halfS_set L k0 k hlt
    rw [encS] at h3
    have h4 := rowAt_map encS (halfS L k0 k) k (by omega)
    (repeat' (first | refine WP.seq ?_ | refine WP.block ?_ | ((first | refine WP.region ?_ | refine WP.condW ?_ | refine WP.ret ?_ | refine WP.exit ?_ | refine WP.skip ?_); simp only [go_sem, h2, h3, h4, encS, tyAll, Nat.reduceAdd, Nat.reduceLT, Nat.reduceLeDiff, Nat.reduceEqDiff, Nat.reduceMul, Nat.reduceSub, Nat.reduceGT, reduceIte, Int.reduceNeg, Int.reduceToNat]) |  refine And.intro ?_ ?_ | intro _))
    all_goals first | omega | skip
    refine ⟨k + 1, by omega, by omega, ⟨?_, rfl⟩, rfl⟩
    rw [show k0 + (k : Int) + 1 = k0 + ((k + 1 : Nat) : Int) by omega]
  · have h5 : halfS L k0 k = marksS k0 L.length := by rw [show k = L.length by omega]; simp [halfS]
    have h6 := marksS_len k0 L.length
    (repeat' (first | refine WP.seq ?_ | refine WP.block ?_ | ((first | refine WP.region ?_ | refine WP.condW ?_ | refine WP.ret ?_ | refine WP.exit ?_ | refine WP.skip ?_); simp only [go_sem, h2, h5, h6, tyAll, Nat.reduceAdd, Nat.reduceLT, Nat.reduceLeDiff, Nat.reduceEqDiff, Nat.reduceMul, Nat.reduceSub, Nat.reduceGT, reduceIte, Int.reduceNeg, Int.reduceToNat]) |  refine And.intro ?_ ?_ | intro _))
    all_goals first | omega | skip
    rw [show k = L.length by omega]
def kheldS : Ctr := pur (fun args => (decS (aR args 0), aI args 1)) (fun x => [.sl 1 (x.1.map encS), .v (.int .i64 x.2)]) (fun x => x.1.length ≤ 4398046511104 ∧ 0 ≤ x.2 ∧ x.2 ≤ 500000000000000)
  (fun _ x => .v (.int .i64 (if x.1 = marksS x.2 x.1.length then x.2 + x.1.length else -1))) (fun _ _ => [])
end
end
section
open Go.Vc
set_option linter.unusedSimpArgs false
set_option linter.unusedVariables false
set_option maxHeartbeats 1000000
set_option maxRecDepth 10000
attribute [local irreducible] Go.Vc.WP
attribute [local go_sem] cx0_t cx0_c
attribute [local go_sem] decS_enc
def szvStr (L : List ByteArray) : Int → Int := szList (L.map fun s => szA s.size)
def kszStr : Ctr := pur (fun args => (decS (aR args 0), aI args 1)) (fun x => [.sl 1 (x.1.map encS), .v (.int .i64 x.2)]) (fun x => x.1.length ≤ maxLen ∧ (∀ s ∈ x.1, s.size ≤ maxLen) ∧ 0 ≤ x.2 ∧ x.2 ≤ 1048576)
  (fun _ x => .v (.int .i64 (szvStr x.1 x.2))) (fun _ _ => [])
section
noncomputable def cxZs : Cx := { P := Try.prog, tys := tys, C := [], hty := tysOk, hC := COk.nil _ }
theorem cxZs_t : cxZs.tys = tys := rfl
theorem cxZs_c : cxZs.C = [] := rfl
attribute [local go_sem] cxZs_t cxZs_c 
theorem cszStr : Cn Try.prog 82 kszStr := by
  refine Cn.pur Try.func82 (by kernel_rfl) rfl fun d x hx => ?_
  obtain ⟨L, left⟩ := x
  obtain ⟨hL, hs, h0, h1⟩ := hx
  simp only at hL hs h0 h1 ⊢
  have hm : maxLen = 9223372036854775807 := rfl
  generalize hF : (L.map fun s => szA s.size) = F
  have hlen : F.length = L.length := by rw [← hF, List.length_map]
  have hsz : szvStr L left = szList F left := by rw [← hF]; rfl
  rw [hsz]
  refine Holds.go (c := cxZs) Try.func82 rfl Try.results82 Try.ntmps82 (by omega) (by simp) rfl ?_
  intro X0 w0
  (repeat' (first | refine WP.seq ?_ | refine WP.block ?_ | ((first | refine WP.region ?_ | refine WP.condW ?_ | refine WP.ret ?_ | refine WP.exit ?_ | refine WP.skip ?_); simp only [go_sem, tyAll, Nat.reduceAdd, Nat.reduceLT, Nat.reduceLeDiff, Nat.reduceEqDiff, Nat.reduceMul, Nat.reduceSub, Nat.reduceGT, reduceIte, Int.reduceNeg, Int.reduceToNat]) |  refine And.intro ?_ ?_ | intro _))
  all_goals first | omega | skip
  · rename_i h; rw [szList, hlen, if_pos h]
  rename_i hge
  refine WP.loop (fun s : Nat × Int => ⟨[(0, .sl 1 (L.map encS)), (1, .v (.int .i64 s.2)), (5, .v (.int .i64 s.1))], []⟩)
    (fun s => s.1 ≤ L.length ∧ 0 ≤ s.2 ∧ s.2 ≤ 1048576 ∧ szList F left = szL (F.drop s.1) s.2) (fun s => L.length - s.1) (0, left - L.length)
    ⟨by simp, by simpa using hge, by simp only; omega, by rw [szList, hlen, if_neg (by omega)]; rfl⟩ ?_ ?_
  · simp only [go_sem, tyAll, Nat.reduceAdd, Nat.reduceLT, Nat.reduceLeDiff, Nat.reduceEqDiff, Nat.reduceMul, Nat.reduceSub, Nat.reduceGT, reduceIte, Int.reduceNeg, Int.reduceToNat]; first | exact ⟨rfl, rfl⟩ | rfl
  rintro ⟨k, r⟩ ⟨hk, hr0, hr1, he⟩
  simp only at hk hr0 hr1 he ⊢
  by_cases hlt : k < L.length
  · have h2 := rowAt_map encS L k hlt
    have h3 := hs _ (List.getElem_mem hlt)
    have hFk : F[k]'(by omega) = szA L[k].size := by subst hF; simp
    have h4 := szL_drop F k r (by omega)
    rw [hFk] at h4
    have hu : szA L[k].size r = if r - (L[k].size : Int) < 0 then -1 else r - (L[k].size : Int) := rfl
    by_cases h5 : r - (L[k].size : Int) < 0
    · rw [if_pos h5] at hu
      rw [he, h4, hu, if_pos (by omega)]
      (repeat' (first | refine WP.seq ?_ | refine WP.block ?_ | ((first | refine WP.region ?_ | refine WP.condW ?_ | refine WP.ret ?_ | refine WP.exit ?_ | refine WP.skip ?_); simp only [go_sem, h2, encS, h5, tyAll, Nat.reduceAdd, Nat.reduceLT, Nat.reduceLeDiff, Nat.reduceEqDiff, Nat.reduceMul, Nat.reduceSub, Nat.reduceGT, reduceIte, Int.reduceNeg, Int.reduceToNat]) |  refine And.intro ?_ ?_ | intro _))
      all_goals first | omega | skip
      all_goals trace_state
    · rw [if_neg h5] at hu
      rw [hu, if_neg h5] at h4
      (repeat' (first | refine WP.seq ?_ | refine WP.block ?_ | ((first | refine WP.region ?_ | refine WP.condW ?_ | refine WP.ret ?_ | refine WP.exit ?_ | refine WP.skip ?_); simp only [go_sem, h2, encS, h5, tyAll, Nat.reduceAdd, Nat.reduceLT, Nat.reduceLeDiff, Nat.reduceEqDiff, Nat.reduceMul, Nat.reduceSub, Nat.reduceGT, reduceIte, Int.reduceNeg, Int.reduceToNat]) |  refine And.intro ?_ ?_ | intro _))
      all_goals first | omega | exact ⟨(k + 1, r - L[k].size), ⟨by simp only; omega, by simp only; omega, by simp only; omega, by rw [he, h4]⟩, by simp only; omega, rfl, rfl⟩ | skip
      all_goals trace_state
  · (repeat' (first | refine WP.seq ?_ | refine WP.block ?_ | ((first | refine WP.region ?_ | refine WP.condW ?_ | refine WP.ret ?_ | refine WP.exit ?_ | refine WP.skip ?_); simp only [go_sem, tyAll, Nat.reduceAdd, Nat.reduceLT, Nat.reduceLeDiff, Nat.reduceEqDiff, Nat.reduceMul, Nat.reduceSub, Nat.reduceGT, reduceIte, Int.reduceNeg, Int.reduceToNat]) |  refine And.intro ?_ ?_ | intro _))
    all_goals first | omega | skip
    rw [he, List.drop_of_length_le (by omega)]
    rfl
end
def ktoSo : Ctr := pur (fun args => decS (aR args 0)) (fun L => [.sl 1 (L.map encS)]) (fun L => L.length ≤ 2097152) (fun d _ => .own d) (fun d L => [(d, .sl 9 1 (L.map encS))])
section
noncomputable def cxTso : Cx := { P := Try.prog, tys := tys, C := [], hty := tysOk, hC := COk.nil _ }
theorem cxTso_t : cxTso.tys = tys := rfl
theorem cxTso_c : cxTso.C = [] := rfl
attribute [local go_sem] cxTso_t cxTso_c 
theorem ctoSo : Cn Try.prog 84 ktoSo := by
  refine Cn.pur Try.func84 (by kernel_rfl) rfl fun d x hx => ?_
  rename List ByteArray => L
  refine Holds.go (c := cxTso) Try.func84 rfl Try.results84 Try.ntmps84 (by omega) (by simp) rfl ?_
  intro X0 w0
  (repeat' (first | refine WP.seq ?_ | refine WP.block ?_ | ((first | refine WP.region ?_ | refine WP.condW ?_ | refine WP.ret ?_ | refine WP.exit ?_ | refine WP.skip ?_); simp only [go_sem, tyAll, Nat.reduceAdd, Nat.reduceLT, Nat.reduceLeDiff, Nat.reduceEqDiff, Nat.reduceMul, Nat.reduceSub, Nat.reduceGT, reduceIte, Int.reduceNeg, Int.reduceToNat]) |  refine And.intro ?_ ?_ | intro _))
  all_goals first | omega | skip
  refine WP.loop (fun k : Nat => ⟨[(0, .sl 1 (L.map encS)), (3, .own 7), (4, .v (.int .i64 k))], [(7, .sl 9 1 (filled encS [.v (.string ⟨#[]⟩)] L k))]⟩) (fun k => k ≤ L.length) (fun k => L.length - k) 0 (by omega) ?_ ?_
  · rw [filled_zero]; simp only [go_sem, tyAll, Nat.reduceAdd, Nat.reduceLT, Nat.reduceLeDiff, Nat.reduceEqDiff, Nat.reduceMul, Nat.reduceSub, Nat.reduceGT, reduceIte, Int.reduceNeg, Int.reduceToNat]; rfl
  intro k hk
  by_cases hlt : k < L.length
  · have h1 := rowAt_map encS L k hlt
    have h2 := filled_len encS [.v (.string ⟨#[]⟩)] L k hk
    have h3 := filled_row encS [.v (.string ⟨#[]⟩)] L k hlt
    have h4 := filled_set encS [.v (.string ⟨#[]⟩)] L k hlt
    rw [encS] at h4
    (repeat' (first | refine WP.seq ?_ | refine WP.block ?_ | ((first | refine WP.region ?_ | refine WP.condW ?_ | refine WP.ret ?_ | refine WP.exit ?_ | refine WP.skip ?_); simp only [go_sem, h1, h2, h3, h4, encS, tyAll, Nat.reduceAdd, Nat.reduceLT, Nat.reduceLeDiff, Nat.reduceEqDiff, Nat.reduceMul, Nat.reduceSub, Nat.reduceGT, reduceIte, Int.reduceNeg, Int.reduceToNat]) |  refine And.intro ?_ ?_ | intro _))
    all_goals first | omega | skip
    exact ⟨k + 1, by omega, by omega, rfl, rfl⟩
  · have h2 := filled_len encS [.v (.string ⟨#[]⟩)] L k hk
    have h5 : filled encS [.v (.string ⟨#[]⟩)] L k = L.map encS := by rw [show k = L.length by omega]; exact filled_all _ _ _
    (repeat' (first | refine WP.seq ?_ | refine WP.block ?_ | ((first | refine WP.region ?_ | refine WP.condW ?_ | refine WP.ret ?_ | refine WP.exit ?_ | refine WP.skip ?_); simp only [go_sem, h2, h5, tyAll, Nat.reduceAdd, Nat.reduceLT, Nat.reduceLeDiff, Nat.reduceEqDiff, Nat.reduceMul, Nat.reduceSub, Nat.reduceGT, reduceIte, Int.reduceNeg, Int.reduceToNat]) |  refine And.intro ?_ ?_ | intro _))
    all_goals first | omega | skip
end
def kmarkSE : Ctr := len [0] [] (fun args obs => (decS (oR obs 1000000), aI args 1, oE obs 1000000)) (fun x => [.own 1000000, .v (.int .i64 x.2.1)]) (fun x => [(1000000, .sl x.2.2 1 (x.1.map encS))]) (fun x => x.1.length ≤ 4398046511104 ∧ 0 ≤ x.2.1 ∧ x.2.1 ≤ 500000000000000)
  (fun _ x => .v (.int .i64 (x.2.1 + x.1.length))) (fun _ _ => []) (fun x => [(1000000, .sl x.2.2 1 ((marksS x.2.1 x.1.length).map encS))])
section
noncomputable def cxMse : Cx := { P := Try.prog, tys := tys, C := [(46, kmarkT)], hty := tysOk, hC := COk.cons cmarkT (COk.nil _) }
theorem cxMse_t : cxMse.tys = tys := rfl
theorem cxMse_c : cxMse.C = [(46, kmarkT)] := rfl
attribute [local go_sem] cxMse_t cxMse_c kmarkT
theorem cmarkSE : Cn Try.prog 47 kmarkSE := by
  refine Cn.len Try.func47 (by kernel_rfl) rfl fun d x hd hx => ?_
  obtain ⟨L, k0, ee⟩ := x
  obtain ⟨hL, h0, h1⟩ := hx
  simp only at hL h0 h1 ⊢
  refine HoldsL.go (c := cxMse) Try.func47 rfl Try.results47 Try.ntmps47 (by omega) (by simp) rfl (by simp <;> omega) (by simp [SV.owns2, SV.owns, SV.owns1]) (by simp) rfl rfl (by simp) ?_
  intro X0 M w0
  (repeat' (first | refine WP.seq ?_ | refine WP.block ?_ | ((first | refine WP.region ?_ | refine WP.condW ?_ | refine WP.ret ?_ | refine WP.exit ?_ | refine WP.skip ?_); simp only [go_sem, tyAll, Nat.reduceAdd, Nat.reduceLT, Nat.reduceLeDiff, Nat.reduceEqDiff, Nat.reduceMul, Nat.reduceSub, Nat.reduceGT, reduceIte, Int.reduceNeg, Int.reduceToNat]) |  refine And.intro ?_ ?_ | intro _))
  refine WP.loop (fun k : Nat => ⟨[(0, .own 1000000), (1, .v (.int .i64 (k0 + k))), (5, .v (.int .i64 k))], [(1000000, .sl ee 1 ((halfS L k0 k).map encS))]⟩) (fun k => k ≤ L.length) (fun k => L.length - k) 0 (by omega) ?_ ?_
  · have e : halfS L k0 0 = L := by simp [halfS, marksS]
    rw [e]; (simp only [go_sem, tyAll, Nat.reduceAdd, Nat.reduceLT, Nat.reduceLeDiff, Nat.reduceEqDiff, Nat.reduceMul, Nat.reduceSub, Nat.reduceGT, reduceIte, Int.reduceNeg, Int.reduceToNat] <;> (first | rfl | exact ⟨rfl, rfl⟩ | exact ⟨rfl, rfl, rfl⟩ | exact ⟨rfl, rfl, rfl, rfl⟩ | exact ⟨rfl, rfl, rfl, rfl, rfl⟩ | exact ⟨⟨rfl, rfl⟩, rfl⟩ | simp))
  intro k hk
  have h2 := halfS_len L k0 k hk
  by_cases hlt : k < L.length
  · have h3 := halfS_set L k0 k hlt
    rw [encS] at h3
    have h4 := rowAt_map encS (halfS L k0 k) k (by omega)
    (repeat' (first | refine WP.seq ?_ | refine WP.block ?_ | ((first | refine WP.region ?_ | refine WP.condW ?_ | refine WP.ret ?_ | refine WP.exit ?_ | refine WP.skip ?_); simp only [go_sem, h2, h3, h4, encS, tyAll, Nat.reduceAdd, Nat.reduceLT, Nat.reduceLeDiff, Nat.reduceEqDiff, Nat.reduceMul, Nat.reduceSub, Nat.reduceGT, reduceIte, Int.reduceNeg, Int.reduceToNat]) |  refine And.intro ?_ ?_ | intro _))
    all_goals first | omega | skip
    refine ⟨k + 1, by omega, by omega, ⟨?_, rfl⟩, rfl⟩
    rw [show k0 + (k : Int) + 1 = k0 + ((k + 1 : Nat) : Int) by omega]
  · have h5 : halfS L k0 k = marksS k0 L.length := by rw [show k = L.length by omega]; simp [halfS]
    have h6 := marksS_len k0 L.length
    (repeat' (first | refine WP.seq ?_ | refine WP.block ?_ | ((first | refine WP.region ?_ | refine WP.condW ?_ | refine WP.ret ?_ | refine WP.exit ?_ | refine WP.skip ?_); simp only [go_sem, h2, h5, h6, tyAll, Nat.reduceAdd, Nat.reduceLT, Nat.reduceLeDiff, Nat.reduceEqDiff, Nat.reduceMul, Nat.reduceSub, Nat.reduceGT, reduceIte, Int.reduceNeg, Int.reduceToNat]) |  refine And.intro ?_ ?_ | intro _))
    all_goals first | omega | skip
    rw [show k = L.length by omega]
end
end
section
open Go.Vc
set_option linter.unusedSimpArgs false
set_option linter.unusedVariables false
set_option maxHeartbeats 1000000
attribute [local irreducible] Go.Vc.WP
attribute [local go_sem] cx0_t cx0_c

structure Tok where
  kind : Int
  num : Int
  name : ByteArray
deriving DecidableEq
def encTok (x : Tok) : List SV := [.v (.int .i64 x.kind), .v (.int .i64 x.num), .v (.string x.name)]
def oneTok : List SV → Tok
  | [.v (.int _ kind), .v (.int _ num), .v (.string name)] => ⟨kind, num, name⟩
  | _ => ⟨0, 0, ⟨#[]⟩⟩
def decTok (rows : List (List SV)) : List Tok := rows.map oneTok
theorem oneTok_enc (x : Tok) : oneTok (encTok x) = x := rfl
theorem decTok_enc (L : List Tok) : decTok (L.map encTok) = L := by
  unfold decTok
  rw [List.map_map]
  exact List.map_id'' oneTok_enc L
theorem isV_Tok {e s : Nat} (L : List Tok) : (Ob.sl e s (L.map encTok)).isV ↔ True := iff_true_intro (by
  intro row hr c hc
  obtain ⟨n, _, rfl⟩ := List.mem_map.1 hr
  simp only [encTok, List.mem_cons, List.not_mem_nil, or_false] at hc
  rcases hc with rfl | rfl | rfl <;> exact ⟨_, rfl⟩)
def zerTok : List SV := [.v (.int .i64 0), .v (.int .i64 0), .v (.string ⟨#[]⟩)]

def ktoTok : Ctr := pur (fun args => oneTok (aC args 0)) (fun x => [.agg (encTok x)]) (fun _ => True) (fun _ x => .agg (encTok x)) (fun _ _ => [])
theorem ctoTok : Cn Try.prog 120 ktoTok := by
  refine Cn.pur Try.func120 (by kernel_rfl) rfl fun d x _ => ?_
  refine Holds.go (c := cx0) Try.func120 rfl Try.results120 Try.ntmps120 (by omega) (by simp) rfl ?_
  intro X0 w0
  unfold encTok
  (repeat' (first | refine WP.seq ?_ | refine WP.block ?_ | ((first | refine WP.region ?_ | refine WP.condW ?_ | refine WP.ret ?_ | refine WP.exit ?_ | refine WP.skip ?_); simp only [go_sem, tyAll, Nat.reduceAdd, Nat.reduceLT, Nat.reduceLeDiff, Nat.reduceEqDiff, Nat.reduceMul, Nat.reduceSub, Nat.reduceGT, reduceIte, Int.reduceNeg, Int.reduceToNat]) |  refine And.intro ?_ ?_ | intro _))
  all_goals first | omega | exact ⟨_, _, rfl, _, _, rfl, rfl⟩ | skip

noncomputable def cxtoTok : Cx := { P := Try.prog, tys := tys, C := [(120, ktoTok)], hty := tysOk, hC := COk.cons ctoTok (COk.nil _) }
theorem cxtoTok_t : cxtoTok.tys = tys := rfl
theorem cxtoTok_c : cxtoTok.C = [(120, ktoTok)] := rfl
def ktoTokS : Ctr := pur (fun args => decTok (aR args 0)) (fun L => [.sl 3 (L.map encTok)]) (fun L => L.length ≤ 2097152) (fun d _ => .own d) (fun d L => [(d, .sl 149 3 (L.map encTok))])
section
attribute [local go_sem] cxtoTok_t cxtoTok_c ktoTok oneTok
theorem ctoTokS : Cn Try.prog 85 ktoTokS := by
  refine Cn.pur Try.func85 (by kernel_rfl) rfl fun d L hL => ?_
  refine Holds.go (c := cxtoTok) Try.func85 rfl Try.results85 Try.ntmps85 (by omega) (by simp) rfl ?_
  intro X0 w0
  (repeat' (first | refine WP.seq ?_ | refine WP.block ?_ | ((first | refine WP.region ?_ | refine WP.condW ?_ | refine WP.ret ?_ | refine WP.exit ?_ | refine WP.skip ?_); simp only [go_sem, tyAll, Nat.reduceAdd, Nat.reduceLT, Nat.reduceLeDiff, Nat.reduceEqDiff, Nat.reduceMul, Nat.reduceSub, Nat.reduceGT, reduceIte, Int.reduceNeg, Int.reduceToNat]) |  refine And.intro ?_ ?_ | intro _))
  all_goals first | omega | skip
  refine WP.loop (fun k : Nat => ⟨[(0, .sl 3 (L.map encTok)), (3, .own 7), (4, .v (.int .i64 k))], [(7, .sl 149 3 (filled encTok zerTok L k))]⟩) (fun k => k ≤ L.length) (fun k => L.length - k) 0 (by omega) ?_ ?_
  · rw [filled_zero]; simp only [go_sem, tyAll, Nat.reduceAdd, Nat.reduceLT, Nat.reduceLeDiff, Nat.reduceEqDiff, Nat.reduceMul, Nat.reduceSub, Nat.reduceGT, reduceIte, Int.reduceNeg, Int.reduceToNat]; first | exact ⟨rfl, rfl⟩ | rfl
  intro k hk
  by_cases hlt : k < L.length
  · have h1 := rowAt_map encTok L k hlt
    have h2 := filled_len encTok zerTok L k hk
    have h3 : Go.Vc.rowAt (filled encTok zerTok L k) k = [.v (.int .i64 0), .v (.int .i64 0), .v (.string ⟨#[]⟩)] := filled_row encTok zerTok L k hlt
    have h4 := filled_set encTok zerTok L k hlt
    rw [encTok] at h4
    (repeat' (first | refine WP.seq ?_ | refine WP.block ?_ | ((first | refine WP.region ?_ | refine WP.condW ?_ | refine WP.ret ?_ | refine WP.exit ?_ | refine WP.skip ?_); simp only [go_sem, h1, h2, h3, h4, encTok, tyAll, Nat.reduceAdd, Nat.reduceLT, Nat.reduceLeDiff, Nat.reduceEqDiff, Nat.reduceMul, Nat.reduceSub, Nat.reduceGT, reduceIte, Int.reduceNeg, Int.reduceToNat]) |  refine And.intro ?_ ?_ | intro _))
    all_goals first | omega | skip
    exact ⟨k + 1, by omega, by omega, rfl, rfl⟩
  · have h2 := filled_len encTok zerTok L k hk
    have h5 : filled encTok zerTok L k = L.map encTok := by rw [show k = L.length by omega]; exact filled_all _ _ _
    (repeat' (first | refine WP.seq ?_ | refine WP.block ?_ | ((first | refine WP.region ?_ | refine WP.condW ?_ | refine WP.ret ?_ | refine WP.exit ?_ | refine WP.skip ?_); simp only [go_sem, h2, h5, tyAll, Nat.reduceAdd, Nat.reduceLT, Nat.reduceLeDiff, Nat.reduceEqDiff, Nat.reduceMul, Nat.reduceSub, Nat.reduceGT, reduceIte, Int.reduceNeg, Int.reduceToNat]) |  refine And.intro ?_ ?_ | intro _))
    all_goals first | omega | skip
end

def keqTok : Ctr := pur (fun args => (oneTok (aC args 0), oneTok (aC args 1))) (fun x => [.agg (encTok x.1), .agg (encTok x.2)]) (fun _ => True) (fun _ x => .v (.bool (decide (x.1 = x.2)))) (fun _ _ => [])
theorem ceqTok : Cn Try.prog 121 keqTok := by
  refine Cn.pur Try.func121 (by kernel_rfl) rfl fun d x _ => ?_
  obtain ⟨⟨a0, a1, a2⟩, ⟨b0, b1, b2⟩⟩ := x
  refine Holds.go (c := cx0) Try.func121 rfl Try.results121 Try.ntmps121 (by omega) (by simp) rfl ?_
  intro X0 w0
  simp only [encTok]
  (repeat' (first | refine WP.seq ?_ | refine WP.block ?_ | ((first | refine WP.region ?_ | refine WP.condW ?_ | refine WP.ret ?_ | refine WP.exit ?_ | refine WP.skip ?_); simp only [go_sem, tyAll, Nat.reduceAdd, Nat.reduceLT, Nat.reduceLeDiff, Nat.reduceEqDiff, Nat.reduceMul, Nat.reduceSub, Nat.reduceGT, reduceIte, Int.reduceNeg, Int.reduceToNat]) |  refine And.intro ?_ ?_ | intro _))
  all_goals simp_all

noncomputable def cxeqTok : Cx := { P := Try.prog, tys := tys, C := [(121, keqTok)], hty := tysOk, hC := COk.cons ceqTok (COk.nil _) }
theorem cxeqTok_t : cxeqTok.tys = tys := rfl
theorem cxeqTok_c : cxeqTok.C = [(121, keqTok)] := rfl
def keqTokS : Ctr := pur (fun args => (decTok (aR args 0), decTok (aR args 1))) (fun x => [.sl 3 (x.1.map encTok), .sl 3 (x.2.map encTok)]) (fun x => x.1.length ≤ 4398046511104) (fun _ x => .v (.bool (decide (x.1 = x.2)))) (fun _ _ => [])
section
attribute [local go_sem] cxeqTok_t cxeqTok_c keqTok oneTok
theorem ceqTokS : Cn Try.prog 87 keqTokS := by
  refine Cn.pur Try.func87 (by kernel_rfl) rfl fun d x hL => ?_
  obtain ⟨L, M⟩ := x
  simp only at hL ⊢
  refine Holds.go (c := cxeqTok) Try.func87 rfl Try.results87 Try.ntmps87 (by omega) (by simp) rfl ?_
  intro X0 w0
  (repeat' (first | refine WP.seq ?_ | refine WP.block ?_ | ((first | refine WP.region ?_ | refine WP.condW ?_ | refine WP.ret ?_ | refine WP.exit ?_ | refine WP.skip ?_); simp only [go_sem, tyAll, Nat.reduceAdd, Nat.reduceLT, Nat.reduceLeDiff, Nat.reduceEqDiff, Nat.reduceMul, Nat.reduceSub, Nat.reduceGT, reduceIte, Int.reduceNeg, Int.reduceToNat]) |  refine And.intro ?_ ?_ | intro _))
  · simp; intro h; subst h; simp_all
  have hlen : L.length = M.length := by omega
  refine WP.loop (fun k : Nat => ⟨[(0, .sl 3 (L.map encTok)), (1, .sl 3 (M.map encTok)), (5, .v (.int .i64 k))], []⟩) (fun k => k ≤ L.length ∧ L.take k = M.take k) (fun k => L.length - k) 0 (by simp) ?_ ?_
  · simp only [go_sem, tyAll, Nat.reduceAdd, Nat.reduceLT, Nat.reduceLeDiff, Nat.reduceEqDiff, Nat.reduceMul, Nat.reduceSub, Nat.reduceGT, reduceIte, Int.reduceNeg, Int.reduceToNat]; rfl
  intro k ⟨hk, ht⟩
  by_cases hlt : k < L.length
  · have h1 := rowAt_map encTok L k hlt
    have h2 := rowAt_map encTok M k (by omega)
    (repeat' (first | refine WP.seq ?_ | refine WP.block ?_ | ((first | refine WP.region ?_ | refine WP.condW ?_ | refine WP.ret ?_ | refine WP.exit ?_ | refine WP.skip ?_); simp only [go_sem, h1, h2, encTok, tyAll, Nat.reduceAdd, Nat.reduceLT, Nat.reduceLeDiff, Nat.reduceEqDiff, Nat.reduceMul, Nat.reduceSub, Nat.reduceGT, reduceIte, Int.reduceNeg, Int.reduceToNat]) | (refine WP.drawW 10 (by kernel_rfl) (by kernel_rfl) ?_; simp only [go_sem, h1, h2, encTok, tyAll, Nat.reduceAdd, Nat.reduceLT, Nat.reduceLeDiff, Nat.reduceEqDiff, Nat.reduceMul, Nat.reduceSub, Nat.reduceGT, reduceIte, Int.reduceNeg, Int.reduceToNat]) |  refine And.intro ?_ ?_ | intro _))
    all_goals first | omega | skip
    · rename_i hne
      rw [show decide (L = M) = false from decide_eq_false fun e => by subst e; exact hne rfl]
    · rename_i he
      refine ⟨k + 1, ⟨by omega, ?_⟩, by omega, rfl⟩
      have he' : L[k] = M[k] := he
      rw [List.take_succ_eq_append_getElem hlt, List.take_succ_eq_append_getElem (by omega : k < M.length), ht, he']
  · (repeat' (first | refine WP.seq ?_ | refine WP.block ?_ | ((first | refine WP.region ?_ | refine WP.condW ?_ | refine WP.ret ?_ | refine WP.exit ?_ | refine WP.skip ?_); simp only [go_sem, tyAll, Nat.reduceAdd, Nat.reduceLT, Nat.reduceLeDiff, Nat.reduceEqDiff, Nat.reduceMul, Nat.reduceSub, Nat.reduceGT, reduceIte, Int.reduceNeg, Int.reduceToNat]) |  refine And.intro ?_ ?_ | intro _))
    all_goals first | omega | skip
    rw [show decide (L = M) = true from decide_eq_true ?_]
    rw [show k = L.length by omega, List.take_length, hlen, List.take_length] at ht
    exact ht
end

def kszTok : Ctr := pur (fun args => (oneTok (aC args 0), aI args 1)) (fun x => [.agg (encTok x.1), .v (.int .i64 x.2)]) (fun x => x.1.name.size ≤ maxLen ∧ 0 ≤ x.2 ∧ x.2 ≤ 1048576)
  (fun _ x => .v (.int .i64 (if x.2 - x.1.name.size < 0 then -1 else x.2 - x.1.name.size))) (fun _ _ => [])
theorem cszTok : Cn Try.prog 119 kszTok := by
  refine Cn.pur Try.func119 (by kernel_rfl) rfl fun d x h => ?_
  obtain ⟨x, left⟩ := x
  obtain ⟨hL, h0, h1⟩ := h
  simp only at hL h0 h1 ⊢
  have hm : maxLen = 9223372036854775807 := rfl
  refine Holds.go (c := cx0) Try.func119 rfl Try.results119 Try.ntmps119 (by omega) (by simp) rfl ?_
  intro X0 w0
  simp only [encTok]
  (repeat' (first | refine WP.seq ?_ | refine WP.block ?_ | ((first | refine WP.region ?_ | refine WP.condW ?_ | refine WP.ret ?_ | refine WP.exit ?_ | refine WP.skip ?_); simp only [go_sem, tyAll, Nat.reduceAdd, Nat.reduceLT, Nat.reduceLeDiff, Nat.reduceEqDiff, Nat.reduceMul, Nat.reduceSub, Nat.reduceGT, reduceIte, Int.reduceNeg, Int.reduceToNat]) |  refine And.intro ?_ ?_ | intro _))
  all_goals first | omega | skip
  · rename_i h; rw [if_pos h]
  · rename_i h; rw [if_neg (by omega)]

noncomputable def cxszTok : Cx := { P := Try.prog, tys := tys, C := [(119, kszTok)], hty := tysOk, hC := COk.cons cszTok (COk.nil _) }
theorem cxszTok_t : cxszTok.tys = tys := rfl
theorem cxszTok_c : cxszTok.C = [(119, kszTok)] := rfl
def sizesTok (L : List Tok) : List Nat := L.map fun x => x.name.size
def szvTok (L : List Tok) (left : Int) : Int := if left - L.length < 0 then -1 else szGo (sizesTok L) (left - L.length)
def kszTokS : Ctr := pur (fun args => (decTok (aR args 0), aI args 1)) (fun x => [.sl 3 (x.1.map encTok), .v (.int .i64 x.2)]) (fun x => x.1.length ≤ maxLen ∧ (∀ r ∈ x.1, r.name.size ≤ maxLen) ∧ 0 ≤ x.2 ∧ x.2 ≤ 1048576)
  (fun _ x => .v (.int .i64 (szvTok x.1 x.2))) (fun _ _ => [])
section
attribute [local go_sem] cxszTok_t cxszTok_c kszTok oneTok
theorem cszTokS : Cn Try.prog 83 kszTokS := by
  refine Cn.pur Try.func83 (by kernel_rfl) rfl fun d x h => ?_
  obtain ⟨L, left⟩ := x
  obtain ⟨hL, hs, h0, h1⟩ := h
  simp only at hL hs h0 h1 ⊢
  have hm : maxLen = 9223372036854775807 := rfl
  refine Holds.go (c := cxszTok) Try.func83 rfl Try.results83 Try.ntmps83 (by omega) (by simp) rfl ?_
  intro X0 w0
  (repeat' (first | refine WP.seq ?_ | refine WP.block ?_ | ((first | refine WP.region ?_ | refine WP.condW ?_ | refine WP.ret ?_ | refine WP.exit ?_ | refine WP.skip ?_); simp only [go_sem, tyAll, Nat.reduceAdd, Nat.reduceLT, Nat.reduceLeDiff, Nat.reduceEqDiff, Nat.reduceMul, Nat.reduceSub, Nat.reduceGT, reduceIte, Int.reduceNeg, Int.reduceToNat]) |  refine And.intro ?_ ?_ | intro _))
  all_goals first | omega | skip
  · rename_i h; rw [szvTok, if_pos h]
  rename_i hge
  refine WP.loop (fun s : Nat × Int => ⟨[(0, .sl 3 (L.map encTok)), (1, .v (.int .i64 s.2)), (5, .v (.int .i64 s.1))], []⟩)
    (fun s => s.1 ≤ L.length ∧ 0 ≤ s.2 ∧ s.2 ≤ 1048576 ∧ szvTok L left = szGo ((sizesTok L).drop s.1) s.2) (fun s => L.length - s.1) (0, left - L.length)
    ⟨by simp, by simpa using hge, by simp only; omega, by rw [szvTok, if_neg (by omega)]; rfl⟩ ?_ ?_
  · simp only [go_sem, tyAll, Nat.reduceAdd, Nat.reduceLT, Nat.reduceLeDiff, Nat.reduceEqDiff, Nat.reduceMul, Nat.reduceSub, Nat.reduceGT, reduceIte, Int.reduceNeg, Int.reduceToNat]; first | exact ⟨rfl, rfl⟩ | rfl
  rintro ⟨k, r⟩ ⟨hk, hr0, hr1, he⟩
  simp only at hk hr0 hr1 he ⊢
  by_cases hlt : k < L.length
  · have h2 := rowAt_map encTok L k hlt
    have h3 := hs _ (List.getElem_mem hlt)
    have h4 : szGo ((sizesTok L).drop k) r = if r - (L[k].name.size : Int) < 0 then -1 else szGo ((sizesTok L).drop (k + 1)) (r - (L[k].name.size : Int)) := by
      rw [szGo_drop (sizesTok L) k r (by simpa [sizesTok] using hlt)]
      simp only [sizesTok, List.getElem_map]
    (repeat' (first | refine WP.seq ?_ | refine WP.block ?_ | ((first | refine WP.region ?_ | refine WP.condW ?_ | refine WP.ret ?_ | refine WP.exit ?_ | refine WP.skip ?_); simp only [go_sem, h2, encTok, tyAll, Nat.reduceAdd, Nat.reduceLT, Nat.reduceLeDiff, Nat.reduceEqDiff, Nat.reduceMul, Nat.reduceSub, Nat.reduceGT, reduceIte, Int.reduceNeg, Int.reduceToNat]) |  refine And.intro ?_ ?_ | intro _))
    all_goals first | omega | skip
    · rename_i h
      have h5 : r - (L[k].name.size : Int) < 0 := by
        refine Int.not_le.1 fun h6 => ?_
        rw [if_neg (by omega)] at h
        omega
      rw [he, h4, if_pos h5]
    · rename_i h
      have h5 : ¬ r - (L[k].name.size : Int) < 0 := fun h6 => by
        rw [if_pos h6] at h
        omega
      rw [if_neg h5]
      refine ⟨(k + 1, r - L[k].name.size), ⟨by simp only; omega, by simp only; omega, by simp only; omega, ?_⟩, by simp only; omega, rfl, rfl⟩
      rw [he, h4, if_neg h5]
  · (repeat' (first | refine WP.seq ?_ | refine WP.block ?_ | ((first | refine WP.region ?_ | refine WP.condW ?_ | refine WP.ret ?_ | refine WP.exit ?_ | refine WP.skip ?_); simp only [go_sem, tyAll, Nat.reduceAdd, Nat.reduceLT, Nat.reduceLeDiff, Nat.reduceEqDiff, Nat.reduceMul, Nat.reduceSub, Nat.reduceGT, reduceIte, Int.reduceNeg, Int.reduceToNat]) |  refine And.intro ?_ ?_ | intro _))
    all_goals first | omega | skip
    rw [he, List.drop_of_length_le (by simp [sizesTok]; omega)]
    rfl
end
theorem szvTok_ok {L : List Tok} (h : ¬ szvTok L 1048576 < 0) : L.length ≤ 1048576 ∧ ∀ x ∈ L, x.name.size ≤ 1048576 := by
  unfold szvTok at h
  split at h
  · omega
  · rename_i h2
    refine ⟨by omega, fun x hx => ?_⟩
    have := szGo_ok (sizesTok L) _ (by omega) (Int.not_lt.1 h) x.name.size (List.mem_map.2 ⟨x, hx, rfl⟩)
    omega

theorem extTok {a b : Tok} (h0 : a.kind = b.kind) (h1 : a.num = b.num) (h2 : a.name = b.name) : a = b := by cases a; cases b; simp_all
def mrkTok (v : Int) : Tok := ⟨v, v + 1, markT (v + 1 + 1)⟩
def marksTok (k : Int) (n : Nat) : List Tok := (List.range n).map fun i : Nat => mrkTok (k + 3 * (i : Int))
theorem marksTok_len (k : Int) (n : Nat) : (marksTok k n).length = n := by simp [marksTok]
def halfTok (L : List Tok) (k0 : Int) (k : Nat) : List Tok := marksTok k0 k ++ L.drop k
theorem halfTok_len (L : List Tok) (k0 : Int) (k : Nat) (h : k ≤ L.length) : (halfTok L k0 k).length = L.length := by simp [halfTok, marksTok_len]; omega
theorem halfTok_set (L : List Tok) (k0 : Int) (k : Nat) (h : k < L.length) : ((halfTok L k0 k).map encTok).set k (encTok (mrkTok (k0 + 3 * (k : Int)))) = (halfTok L k0 (k + 1)).map encTok := by
  rw [← List.map_set]
  congr 1
  unfold halfTok
  rw [List.set_append, if_neg (by simp [marksTok_len]), marksTok_len, Nat.sub_self, List.drop_eq_getElem_cons h, List.set_cons_zero]
  simp [marksTok, List.range_succ]
noncomputable def cxMkTok : Cx := { P := Try.prog, tys := tys, C := [(46, kmarkT)], hty := tysOk, hC := COk.cons cmarkT (COk.nil _) }
theorem cxMkTok_t : cxMkTok.tys = tys := rfl
theorem cxMkTok_c : cxMkTok.C = [(46, kmarkT)] := rfl
attribute [local go_sem] cxMkTok_t cxMkTok_c kmarkT

def kmarkTokE : Ctr := len [0] [] (fun args obs => (decTok (oR obs 1000000), aI args 1, oE obs 1000000)) (fun x => [.own 1000000, .v (.int .i64 x.2.1)]) (fun x => [(1000000, .sl x.2.2 3 (x.1.map encTok))]) (fun x => x.1.length ≤ 4398046511104 ∧ 0 ≤ x.2.1 ∧ x.2.1 ≤ 500000000000000)
  (fun _ x => .v (.int .i64 (x.2.1 + 3 * x.1.length))) (fun _ _ => []) (fun x => [(1000000, .sl x.2.2 3 ((marksTok x.2.1 x.1.length).map encTok))])
theorem cmarkTokE : Cn Try.prog 48 kmarkTokE := by
  refine Cn.len Try.func48 (by kernel_rfl) rfl fun d x hd hx => ?_
  obtain ⟨L, k0, ee⟩ := x
  obtain ⟨hL, h0, h1⟩ := hx
  simp only at hL h0 h1 ⊢
  refine HoldsL.go (c := cxMkTok) Try.func48 rfl Try.results48 Try.ntmps48 (by omega) (by simp) rfl (by simp <;> omega) (by simp [SV.owns2, SV.owns, SV.owns1]) (by simp) rfl rfl (by simp) ?_
  intro X0 M w0
  (repeat' (first | refine WP.seq ?_ | refine WP.block ?_ | ((first | refine WP.region ?_ | refine WP.condW ?_ | refine WP.ret ?_ | refine WP.exit ?_ | refine WP.skip ?_); simp only [go_sem, tyAll, Nat.reduceAdd, Nat.reduceLT, Nat.reduceLeDiff, Nat.reduceEqDiff, Nat.reduceMul, Nat.reduceSub, Nat.reduceGT, reduceIte, Int.reduceNeg, Int.reduceToNat]) |  refine And.intro ?_ ?_ | intro _))
  refine WP.loop (fun k : Nat => ⟨[(0, .own 1000000), (1, .v (.int .i64 (k0 + 3 * (k : Int)))), (5, .v (.int .i64 k))], [(1000000, .sl ee 3 ((halfTok L k0 k).map encTok))]⟩) (fun k => k ≤ L.length) (fun k => L.length - k) 0 (by omega) ?_ ?_
  · have e : halfTok L k0 0 = L := by simp [halfTok, marksTok]
    rw [e]; (simp only [go_sem, tyAll, Nat.reduceAdd, Nat.reduceLT, Nat.reduceLeDiff, Nat.reduceEqDiff, Nat.reduceMul, Nat.reduceSub, Nat.reduceGT, reduceIte, Int.reduceNeg, Int.reduceToNat] <;> (first | rfl | exact ⟨rfl, rfl⟩ | exact ⟨rfl, rfl, rfl⟩ | exact ⟨rfl, rfl, rfl, rfl⟩ | exact ⟨rfl, rfl, rfl, rfl, rfl⟩ | exact ⟨⟨rfl, rfl⟩, rfl⟩ | simp))
  intro k hk
  have h2 := halfTok_len L k0 k hk
  by_cases hlt : k < L.length
  · have h3 := halfTok_set L k0 k hlt
    rw [encTok, mrkTok] at h3
    simp only at h3
    have h4 := rowAt_map encTok (halfTok L k0 k) k (by omega)
    have h5 : ∀ r : List SV, Go.Vc.rowAt (((halfTok L k0 k).map encTok).set k r) k = r := fun r => rowAt_set _ _ _ (by rw [List.length_map]; omega)
    (repeat' (first | refine WP.seq ?_ | refine WP.block ?_ | ((first | refine WP.region ?_ | refine WP.condW ?_ | refine WP.ret ?_ | refine WP.exit ?_ | refine WP.skip ?_); simp only [go_sem, h2, h3, h4, h5, encTok, List.set_set, List.length_set, tyAll, Nat.reduceAdd, Nat.reduceLT, Nat.reduceLeDiff, Nat.reduceEqDiff, Nat.reduceMul, Nat.reduceSub, Nat.reduceGT, reduceIte, Int.reduceNeg, Int.reduceToNat]) |  refine And.intro ?_ ?_ | intro _))
    all_goals first | omega | skip
    refine ⟨k + 1, by omega, by omega, ⟨?_, rfl⟩, rfl⟩
    rw [show k0 + 3 * (k : Int) + 1 + 1 + 1 = k0 + 3 * ((k + 1 : Nat) : Int) by omega]
  · have h5 : halfTok L k0 k = marksTok k0 L.length := by rw [show k = L.length by omega]; simp [halfTok]
    have h6 := marksTok_len k0 L.length
    (repeat' (first | refine WP.seq ?_ | refine WP.block ?_ | ((first | refine WP.region ?_ | refine WP.condW ?_ | refine WP.ret ?_ | refine WP.exit ?_ | refine WP.skip ?_); simp only [go_sem, h2, h5, h6, tyAll, Nat.reduceAdd, Nat.reduceLT, Nat.reduceLeDiff, Nat.reduceEqDiff, Nat.reduceMul, Nat.reduceSub, Nat.reduceGT, reduceIte, Int.reduceNeg, Int.reduceToNat]) |  refine And.intro ?_ ?_ | intro _))
    all_goals first | omega | skip
    all_goals rw [show k = L.length by omega]

def kheldTokS : Ctr := pur (fun args => (decTok (aR args 0), aI args 1)) (fun x => [.sl 3 (x.1.map encTok), .v (.int .i64 x.2)]) (fun x => x.1.length ≤ 4398046511104 ∧ 0 ≤ x.2 ∧ x.2 ≤ 500000000000000)
  (fun _ x => .v (.int .i64 (if x.1 = marksTok x.2 x.1.length then x.2 + 3 * x.1.length else -1))) (fun _ _ => [])
section
open Go.RowKit Go.WideShapes Go.ChangeShapes Go.Deep
theorem rowTok {H : Type} {enc : TypeId × Value → H} {w : World} : Dec H enc Try.prog w 181 encTok (fun x => (IntKind.i64.min ≤ x.kind ∧ x.kind ≤ IntKind.i64.max) ∧ (IntKind.i64.min ≤ x.num ∧ x.num ≤ IntKind.i64.max) ∧ (x.name.size ≤ maxLen)) := by
  intro base sp held n cs y h
  obtain ⟨hlen, hf⟩ := trod_fields Try.underlying181 (by kernel_rfl) (by kernel_rfl) h
  obtain ⟨v0, n0, z0, e0, t0⟩ := hf 0 _ rfl
  obtain ⟨m0, q0, _, w0⟩ := DataW.trod_int Try.underlying3 t0
  simp only [List.cons.injEq, and_true] at q0
  subst q0
  obtain ⟨v1, n1, z1, e1, t1⟩ := hf 1 _ rfl
  obtain ⟨m1, q1, _, w1⟩ := DataW.trod_int Try.underlying3 t1
  simp only [List.cons.injEq, and_true] at q1
  subst q1
  obtain ⟨v2, n2, z2, e2, t2⟩ := hf 2 _ rfl
  obtain ⟨m2, q2, _, w2⟩ := DataW.trod_string Try.underlying9 t2
  simp only [List.cons.injEq, and_true] at q2
  subst q2
  have hcs : cs = [.int .i64 m0, .int .i64 m1, .string m2] := list_of_get hlen (fun j v hj => by
    match j, hj with
    | 0, hj => simp at hj; subst hj; exact e0
    | 1, hj => simp at hj; subst hj; exact e1
    | 2, hj => simp at hj; subst hj; exact e2
    | (j + 3), hj => simp at hj)
  exact ⟨⟨m0, m1, m2⟩, ⟨by simpa [Lit.wf] using w0, by simpa [Lit.wf] using w1, w2⟩, cells_vs (by rw [hcs]; rfl) (by rw [hcs]; intro u hu; simp only [List.mem_cons, List.not_mem_nil, or_false] at hu; rcases hu with rfl | rfl | rfl <;> rfl)⟩
end
end
end Go.Proofs.Ytdbjioanlkilkaa
